/- The contract of the stable sort. -/
import Derived.Test.YtcbhnjkmjiokgaaG9
namespace Go.Proofs.Ytcbhnjkmjiokgaa.PPPrio
open Go.RowKit Go.Proofs.YtcbhnjkmjiokgaaW.PrintWords Go.Proofs.YtcbhnjkmjiokgaaW.PrintLast Go.Proofs.YtcbhnjkmjiokgaaW.PrintMore
set_option linter.unusedVariables false
set_option linter.unusedSimpArgs false

theorem merge_calls (N : Nat) : ∀ (g n cap a m b : Nat) (f : Nat → S38) (w : World), b - a ≤ N → n < 1099511627776 → RowF w g n cap f → b ≤ n → a < m → m < b → Srt f a m → Srt f m b → Calls Try.prog 30 #[.slice (some ⟨g, 0, none⟩) n cap, .int .i64 a, .int .i64 m, .int .i64 b, cmpV] w (Merged n a b g cap f w) := by
  induction N with
  | zero => intro g n cap a m b f w h1 h2 h3 h4 h5 h6; omega
  | succ N ih =>
    intro g n cap a m b f w hN hn hR hbn ham hmb h1 h2
    by_cases e1 : m = a + 1
    · exact merge_one g n cap a m b f w hn hR hbn e1 hmb h2
    · by_cases e2 : b = m + 1
      · exact merge_last g n cap a m b f w hn hR hbn (by omega) e2 h1
      · by_cases hc : (a + b) / 2 < m
        · exact merge_high N ih g n cap a m b _ f w hN hn hR hbn (by omega) (by omega) h1 h2 rfl hc
        · exact merge_low N ih g n cap a m b _ f w hN hn hR hbn (by omega) (by omega) h1 h2 rfl hc

/-- From lo on the row stands in ordered stretches of s items each, the last one shorter perhaps. -/
def Runs (f : Nat → S38) (s n lo : Nat) : Prop := ∀ t, Srt f (lo + t * s) (min (lo + t * s + s) n)
/-- The first T stretches of s items are in order. -/
def DoneTo (f : Nat → S38) (s T : Nat) : Prop := ∀ t, t < T → Srt f (t * s) (t * s + s)
theorem Runs.head {f : Nat → S38} {s n lo : Nat} (h : Runs f s n lo) : Srt f lo (min (lo + s) n) := by have := h 0; simpa using this
theorem Runs.tail {f : Nat → S38} {s n lo : Nat} (h : Runs f s n lo) : Runs f s n (lo + s) := by
  intro t
  have := h (t + 1)
  rw [Nat.succ_mul] at this
  have e : lo + s + t * s = lo + (t * s + s) := by omega
  rw [e]; exact this
theorem Srt.none {f : Nat → S38} {lo hi : Nat} (h : hi ≤ lo) : Srt f lo hi := fun i j h1 h2 h3 => by omega
theorem Srt.sub {f : Nat → S38} {lo hi lo' hi' : Nat} (h : Srt f lo hi) (h1 : lo ≤ lo') (h2 : hi' ≤ hi) : Srt f lo' hi' := fun i j a b c => h i j (by omega) b (by omega)
theorem Srt.keep {n a b lo hi : Nat} {f f' : Nat → S38} (h : Srt f lo hi) (hs : Same n a b f f') (ho : hi ≤ a ∨ b ≤ lo) : Srt f' lo hi := fun i j h1 h2 h3 => by
  rw [hs.out i (by omega), hs.out j (by omega)]; exact h i j h1 h2 h3
theorem Runs.keep {n a b s lo : Nat} {f f' : Nat → S38} (h : Runs f s n lo) (hs : Same n a b f f') (ho : b ≤ lo) : Runs f' s n lo := fun t => (h t).keep hs (.inr (by omega))
theorem DoneTo.keep {n a b s T : Nat} {f f' : Nat → S38} (h : DoneTo f s T) (hs : Same n a b f f') (ha : a = T * s) : DoneTo f' s T := fun t ht => by
  refine (h t ht).keep hs (.inl ?_)
  have : (t + 1) * s ≤ T * s := Nat.mul_le_mul_right s ht
  rw [Nat.succ_mul] at this
  omega
theorem DoneTo.snoc {s T : Nat} {f : Nat → S38} (h : DoneTo f s T) (h1 : Srt f (T * s) (T * s + s)) : DoneTo f s (T + 1) := fun t ht => by
  by_cases e : t = T
  · rw [e]; exact h1
  · exact h t (by omega)
theorem Runs.all {s T n : Nat} {f : Nat → S38} (h : DoneTo f s T) (h1 : Runs f s n (T * s)) : Runs f s n 0 := fun t => by
  rw [Nat.zero_add]
  by_cases e : t < T
  · exact (h t e).sub (Nat.le_refl _) (Nat.min_le_left _ _)
  · obtain ⟨u, rfl⟩ : ∃ u, t = T + u := ⟨t - T, by omega⟩
    have := h1 u
    rw [Nat.add_mul]; exact this
theorem Runs.last {s lo n : Nat} {f : Nat → S38} (h : Srt f lo n) (h1 : n ≤ lo + s) : Runs f s n lo := fun t => by
  by_cases e : t = 0
  · subst e; exact h.sub (by omega) (Nat.min_le_right _ _)
  · refine Srt.none ?_
    have : 1 * s ≤ t * s := Nat.mul_le_mul_right s (by omega)
    omega

set_option maxHeartbeats 4000000 in
set_option maxRecDepth 100000 in
theorem stable_calls (g n cap : Nat) (f : Nat → S38) (w : World) (hn : n < 1099511627776) (hR : RowF w g n cap f) :
    Calls Try.prog 26 #[.slice (some ⟨g, 0, none⟩) n cap, .int .i64 n, cmpV] w (Merged n 0 n g cap f w) := by
  have HR := Aside0.mk hR
  clear hR
  go_enter Try.func26, Try.ntmps26
  go_wp2_with fail
  go_loopg [7, 8] n (fun kq v7 v8 w' => ∃ (T a b : Nat) (f' : Nat → S38), a + 20 = b ∧ b + kq = n + 20 ∧ v7 = .int .i64 a ∧ v8 = .int .i64 b ∧ Aside0 (a = T * 20) ∧ Aside0 (SS w w' g n cap f') ∧ Aside0 (Same n 0 n f f') ∧ Aside0 (DoneTo f' 20 T))
  case atStart => exact ⟨0, 0, 20, f, rfl, by omega, rfl, rfl, ⟨rfl⟩, ⟨⟨HR.out, .refl _ _⟩⟩, ⟨.refl _ _ _ _⟩, ⟨fun t ht => by omega⟩⟩
  case round =>
    clear HR
    obtain ⟨T, a, b, f', hab, hbk, rfl, rfl, HA, HS, HM, HD⟩ := hrel
    by_cases hbn : b ≤ n
    · have hd : decide (b ≤ n) = true := decide_eq_true hbn
      go_wp2_with fail
      refine (insertion_calls g n cap a b f' _ hn HS.out.row hbn (by omega)).mono ?_
      rintro e w1 ⟨rfl, f2, hs2, hm2, ho2⟩
      have HS2 := Aside0.mk (SS.mk hs2.row (HS.out.gr.trans hs2.gr))
      have HM2 := Aside0.mk (HM.out.trans (hm2.wider (lo' := 0) (hi' := n) (Nat.zero_le _) hbn))
      have HD2 := Aside0.mk ((HD.out.keep hm2 HA.out).snoc (by have := HA.out; rw [← this, hab]; exact ho2))
      clear hs2 hm2 ho2 HS HM HD
      obtain ⟨b2, hb2⟩ : ∃ b2, b2 = b + 20 := ⟨_, rfl⟩
      have hbe : (b : Int) + 20 = (b2 : Int) := by omega
      have HB2 := Aside0.mk hb2
      clear hb2
      go_wp2_with fail
      clear hbe hd
      go_roundg (gk - 20)
      case measure => omega
      case rel => exact ⟨T + 1, b, b2, f2, by have := HB2.out; omega, by have := HB2.out; omega, rfl, rfl, ⟨by have := HA.out; omega⟩, HS2, HM2, HD2⟩
    · have hd : decide (b ≤ n) = false := decide_eq_false hbn
      go_wp2_with fail
      clear hd
      obtain ⟨an, han⟩ : ∃ an, an = a := ⟨_, rfl⟩
      refine (insertion_calls g n cap a n f' _ hn HS.out.row (Nat.le_refl _) (by omega)).mono ?_
      rintro e w1 ⟨rfl, f2, hs2, hm2, ho2⟩
      have HS2 := Aside0.mk (SS.mk hs2.row (HS.out.gr.trans hs2.gr))
      have HM2 := Aside0.mk (HM.out.trans (hm2.wider (lo' := 0) (hi' := n) (Nat.zero_le _) (Nat.le_refl _)))
      have HRN := Aside0.mk (Runs.all (HD.out.keep hm2 HA.out) (by have := HA.out; rw [← this]; exact Runs.last ho2 (by omega)))
      clear hs2 hm2 ho2 HS HM HD HA
      go_wp2_with fail
      go_loopg [6] (n - 20) (fun kq v6 w' => ∃ (s : Nat) (f' : Nat → S38), 0 < s ∧ s < 2199023255552 ∧ kq = n - s ∧ v6 = .int .i64 s ∧ Aside0 (SS w w' g n cap f') ∧ Aside0 (Same n 0 n f f') ∧ Aside0 (Runs f' s n 0))
      case atStart => exact ⟨20, f2, by omega, by omega, rfl, rfl, HS2, HM2, HRN⟩
      case round =>
        clear HS2 HM2 HRN
        obtain ⟨s, f3, hs0, hs1, hk, rfl, HS, HM, HD⟩ := hrel
        have HK := Aside0.mk hk
        clear hk
        by_cases hsn : s < n
        · have hd : decide (s < n) = true := decide_eq_true hsn
          obtain ⟨S, hS⟩ : ∃ S, S = 2 * s := ⟨_, rfl⟩
          have hSe : 2 * (s : Int) = (S : Int) := by omega
          have HSS := Aside0.mk hS
          clear hS
          go_wp2_with fail
          clear hd
          obtain ⟨go, hgo⟩ : ∃ go, go = gk := ⟨_, rfl⟩
          have HGO := Aside0.mk hgo
          clear hgo
          obtain ⟨wo, rfl⟩ : ∃ wo : World, wo = wr := ⟨_, rfl⟩
          go_loopg [7, 8] n (fun kq v7 v8 w' => ∃ (T a b : Nat) (f4 : Nat → S38), a + S = b ∧ b + kq = n + S ∧ v7 = .int .i64 a ∧ v8 = .int .i64 b ∧ Aside0 (a = T * S) ∧ Aside0 (SS w w' g n cap f4) ∧ Aside0 (Same n 0 n f f4) ∧ Aside0 (DoneTo f4 S T) ∧ Aside0 (Runs f4 s n a))
          case atStart => exact ⟨0, 0, S, f3, by omega, by omega, rfl, rfl, ⟨by omega⟩, HS, HM, ⟨fun t ht => by omega⟩, HD⟩
          case round =>
            clear HS HM HD
            obtain ⟨T, a, b, f4, hab, hbk, rfl, rfl, HA, HS, HM, HDT, HD⟩ := hrel
            have HAB := Aside0.mk hab
            have HBK := Aside0.mk hbk
            have hSlt : S < 4398046511104 := by have := HSS.out; omega
            have hblt : b ≤ n + S := by omega
            have haln : a ≤ b := by omega
            have hss : S = s + s := by have := HSS.out; omega
            have HS2 := Aside0.mk hss
            obtain ⟨ms, hms⟩ : ∃ ms, ms = a + s := ⟨_, rfl⟩
            have hmse : (a : Int) + (s : Int) = (ms : Int) := by omega
            have hmsb : ms < b := by omega
            have hams : a < ms := by omega
            have HMS := Aside0.mk hms
            clear hab hbk hss hms
            by_cases hbn : b ≤ n
            · have hd : decide (b ≤ n) = true := decide_eq_true hbn
              obtain ⟨b2, hb2⟩ : ∃ b2, b2 = b + S := ⟨_, rfl⟩
              have hb2e : (b : Int) + (S : Int) = (b2 : Int) := by omega
              have HB2 := Aside0.mk hb2
              clear hb2
              go_wp2_with fail
              have o1 : Srt f4 a ms := by have h := HD.out.head; have e := HMS.out; exact h.sub (Nat.le_refl _) (by omega)
              have o2 : Srt f4 ms b := by have h := HD.out.tail.head; have e := HMS.out; have e2 := HAB.out; have e3 := HS2.out; exact h.sub (by omega) (by omega)
              refine (merge_calls n g n cap a ms b f4 _ (by omega) hn HS.out.row hbn hams hmsb o1 o2).mono ?_
              rintro e w1 ⟨rfl, f5, hs5, hm5, ho5⟩
              have HS5 := Aside0.mk (SS.mk hs5.row (HS.out.gr.trans hs5.gr))
              have HM5 := Aside0.mk (HM.out.trans (hm5.wider (lo' := 0) (hi' := n) (Nat.zero_le _) hbn))
              have HD5 := Aside0.mk ((HDT.out.keep hm5 HA.out).snoc (by have e := HA.out; have e2 := HAB.out; rw [← e, e2]; exact ho5))
              have HR5 := Aside0.mk ((show Runs f4 s n b from by have e2 := HAB.out; have e3 := HS2.out; have h := HD.out.tail.tail; rw [show a + s + s = b by omega] at h; exact h).keep hm5 (Nat.le_refl _))
              clear hs5 hm5 ho5 o1 o2 HS HM HDT HD
              go_wp2_with fail
              clear hmse hd hb2e
              go_roundg (gk - S)
              case measure => have := HBK.out; have := HSS.out; omega
              case rel =>
                have e1 := HAB.out
                have e2 := HB2.out
                have e3 := HBK.out
                exact ⟨T + 1, b, b2, f5, by omega, by omega, rfl, rfl, ⟨by rw [Nat.succ_mul]; have := HA.out; omega⟩, HS5, HM5, HD5, HR5⟩
            · have hd : decide (b ≤ n) = false := decide_eq_false hbn
              have hS2e : (s : Int) * 2 = (S : Int) := by have := HS2.out; omega
              by_cases hmn : ms < n
              · have hd2 : decide (ms < n) = true := decide_eq_true hmn
                go_wp2_with fail
                have o1 : Srt f4 a ms := by have h := HD.out.head; have e := HMS.out; exact h.sub (Nat.le_refl _) (by omega)
                have o2 : Srt f4 ms n := by have h := HD.out.tail.head; have e := HMS.out; have e2 := HAB.out; have e3 := HS2.out; exact h.sub (by omega) (by omega)
                refine (merge_calls n g n cap a ms n f4 _ (by omega) hn HS.out.row (Nat.le_refl _) hams hmn o1 o2).mono ?_
                rintro e w1 ⟨rfl, f5, hs5, hm5, ho5⟩
                have HS5 := Aside0.mk (SS.mk hs5.row (HS.out.gr.trans hs5.gr))
                have HM5 := Aside0.mk (HM.out.trans (hm5.wider (lo' := 0) (hi' := n) (Nat.zero_le _) (Nat.le_refl _)))
                have HR5 := Aside0.mk (Runs.all (HDT.out.keep hm5 HA.out) (by have e := HA.out; rw [← e]; exact Runs.last ho5 (by have := HAB.out; omega)))
                clear hs5 hm5 ho5 o1 o2 HS HM HDT HD
                go_wp2_with fail
                clear hmse hd hd2 hS2e hSe
                go_roundg (n - S)
                case measure => have := HK.out; have := HGO.out; have := HS2.out; omega
                case rel => exact ⟨S, f5, by have := HS2.out; omega, by have := HS2.out; omega, rfl, rfl, HS5, HM5, HR5⟩
              · have hd2 : decide (ms < n) = false := decide_eq_false hmn
                go_wp2_with fail
                have HR5 := Aside0.mk (Runs.all HDT.out (by have e := HA.out; rw [← e]; exact Runs.last (show Srt f4 a n from HD.out.head.sub (Nat.le_refl _) (by have := HMS.out; omega)) (by have := HAB.out; omega)))
                clear hmse hd hd2 hS2e hSe
                go_roundg (n - S)
                case measure => have := HK.out; have := HGO.out; have := HS2.out; omega
                case rel => exact ⟨S, f4, by have := HS2.out; omega, by have := HS2.out; omega, rfl, rfl, HS, HM, HR5⟩
        · have hd : decide (s < n) = false := decide_eq_false hsn
          go_wp2_with fail
          go_end0
          exact ⟨rfl, f3, HS.out, HM.out, by have := HD.out.head; exact this.sub (Nat.le_refl _) (by omega)⟩
end Go.Proofs.Ytcbhnjkmjiokgaa.PPPrio
