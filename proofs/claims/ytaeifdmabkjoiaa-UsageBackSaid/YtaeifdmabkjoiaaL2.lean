/- The walk of UsageAreas. -/
import Derived.Test.YtaeifdmabkjoiaaA7
import Derived.Test.YtaeifdmabkjoiaaR1
import Derived.Test.YtaeifdmabkjoiaaP8
import Derived.Deep.CutRange
import Derived.Deep.QuietTactic
import Derived.BigQuiet
namespace Go.Proofs.Ytaeifdmabkjoiaa.PPU
open Go.RowKit Go.Proofs.YtaeifdmabkjoiaaW.PrintWords Go.Proofs.YtaeifdmabkjoiaaW.PrintLast Go.Proofs.YtaeifdmabkjoiaaW.PrintMore
set_option linter.unusedVariables false
set_option linter.unusedSimpArgs false

theorem max_mx (a b : Int) : max a b = mx a b := by unfold mx; split <;> omega
theorem min_mn (a b : Int) : min a b = mn a b := by unfold mn; split <;> omega
theorem bits_and_bd (x : Int) (m : Nat) (hm : m ≤ 65535) : 0 ≤ bits .and .i64 x (m : Int) ∧ bits .and .i64 x (m : Int) ≤ m := by
  have h1 : (BitVec.ofInt 64 (m : Int)).toNat = m := by
    rw [BitVec.toNat_ofInt]
    omega
  have h2 : (BitVec.ofInt 64 x &&& BitVec.ofInt 64 (m : Int)).toNat ≤ m := by
    rw [BitVec.toNat_and, h1]
    exact Nat.and_le_right
  show 0 ≤ IntKind.i64.wrap _ ∧ IntKind.i64.wrap _ ≤ _
  have h3 : IntKind.i64.wrap (((BitVec.ofInt 64 x &&& BitVec.ofInt 64 (m : Int)).toNat : Nat) : Int) = ((BitVec.ofInt 64 x &&& BitVec.ofInt 64 (m : Int)).toNat : Nat) := IntWalk.i64_in _ (by omega)
  constructor
  · exact (by rw [h3]; omega : (0 : Int) ≤ IntKind.i64.wrap (((BitVec.ofInt 64 x &&& BitVec.ofInt 64 (m : Int)).toNat : Nat) : Int))
  · exact (by rw [h3]; omega : IntKind.i64.wrap (((BitVec.ofInt 64 x &&& BitVec.ofInt 64 (m : Int)).toNat : Nat) : Int) ≤ m)
theorem clamp_q (a : Int) (w : World) : Calls Try.prog 20 #[.int .i64 a] w fun e w' => e = .returned (.int .i64 (clp a)) ∧ w' = w := by
  go_enter Try.func20, Try.ntmps20
  go_wp2_with fail
  go_ret
  exact ⟨ret_i (by unfold clp mx mn; (repeat' split) <;> omega), rfl⟩
theorem area_n (p g N : Nat) (L : Int → Int) (a b : Int) (w : World) (hS : St w p g N L) (hN : N ≤ 2000) (ha : 0 ≤ a ∧ a ≤ 1099511627776) (hb : 0 ≤ b ∧ b ≤ 1099511627776) :
    Calls Try.prog 16 #[ptrV p, .agg #[.int .i64 a, .int .i64 b]] w fun e w' => e = .returned (.int .i64 (min (sumL L a b) 1099511627776)) ∧ Below w.heap.size w w' := by
  have h := area_c p g N L a b w hS hN
  rwa [clp_id ha.1 ha.2, clp_id hb.1 hb.2] at h
theorem area_v (p g N : Nat) (L : Int → Int) (a b v : Int) (w : World) (hS : St w p g N L) (hN : N ≤ 2000) (ha : 0 ≤ a ∧ a ≤ 1099511627776) (hb : 0 ≤ b ∧ b ≤ 1099511627776) (hv : min (sumL L a b) 1099511627776 = v) :
    Calls Try.prog 16 #[ptrV p, .agg #[.int .i64 a, .int .i64 b]] w fun e w' => e = .returned (.int .i64 v) ∧ Below w.heap.size w w' := by
  subst hv
  exact area_n p g N L a b w hS hN ha hb
theorem at_v (p g N : Nat) (L : Int → Int) (t v : Int) (w : World) (hS : St w p g N L) (hN : N ≤ 2000) (ht : 0 ≤ t ∧ t < 1099511627776) (hv : L t = v) : Calls Try.prog 12 #[ptrV p, .int .i64 t] w fun e w' => e = .returned (.int .i64 v) ∧ Below w.heap.size w w' := by
  have h := at_c p g N L t w hS hN
  rwa [clp_id ht.1 (by omega), show mn t 1099511627775 = t by unfold mn; split <;> omega, hv] at h
theorem most_v (p g N : Nat) (L : Int → Int) (a b v : Int) (w : World) (hS : St w p g N L) (hN : N ≤ 2000) (hv : ∀ m, Most L a b m → m = v) : Calls Try.prog 15 #[ptrV p, .agg #[.int .i64 a, .int .i64 b]] w fun e w' => e = .returned (.int .i64 v) ∧ Below w.heap.size w w' := by
  refine (most_c p g N L a b w hS hN).mono ?_
  rintro e w' ⟨m, rfl, hm, hb⟩
  exact ⟨ret_i (hv m hm), hb⟩
theorem len_v (a b : Int) (w : World) (ha : 0 ≤ a ∧ a ≤ 65535) (hb : 0 ≤ b ∧ b ≤ 65535) : Calls Try.prog 22 #[.agg #[.int .i64 a, .int .i64 b]] w fun e w' => e = .returned (.int .i64 (max 0 (b - a))) ∧ Below w.heap.size w w' := by
  refine tick_Span_Len.calls a b _ w ?_
  have e1 : ∀ x, tick_Clamp.f x = some (clp x) := fun _ => rfl
  unfold tick_Span_Len.f tick_Span_clean.f
  rw [e1, e1, clp_id ha.1 (by omega), clp_id hb.1 (by omega)]
  simp only [Option.bind_some]
  unfold tick_Sub.f
  have h3 : 0 ≤ mn a b ∧ mn a b ≤ 65535 := by unfold mn; split <;> omega
  rw [e1, e1, clp_id hb.1 (by omega), clp_id h3.1 (by omega)]
  simp only [Option.bind_some]
  by_cases h : b ≤ mn a b
  · rw [if_pos h]
    simp only [Option.bind_some]
    congr 1
    unfold mn at h
    split at h <;> omega
  · rw [if_neg h, if_neg (by omega)]
    simp only [Option.bind_some]
    rw [IntWalk.wrap64_in _ (by omega)]
    congr 1
    unfold mn at h ⊢
    split at h <;> split <;> omega
/-- The sums of a span's parts. -/
theorem areas_sum (L : Int → Int) (a b c : Int) (hL : ∀ s, 0 ≤ s → s < 1099511627776 → 0 ≤ L s ∧ L s ≤ 84) (ha : 0 ≤ a ∧ a ≤ 65535) (hb : 0 ≤ b ∧ b ≤ 65535) (hc : (a ≤ b → a ≤ c ∧ c ≤ b) ∧ (b < a → c = a)) :
    min (sumL L a b) 1099511627776 = min (sumL L a c) 1099511627776 + min (sumL L c b) 1099511627776 ∧ 0 ≤ sumL L a b ∧ sumL L a b ≤ 5504940 := by
  by_cases h : a ≤ b
  · obtain ⟨h1, h2⟩ := hc.1 h
    have e := sumL_split L a c b h1 h2
    have b0 := sumL_le L a b 84 (by omega) h (fun s h3 h4 => (hL s (by omega) (by omega)).2)
    have b1 := sumL_nonneg L a c
    have b2 := sumL_nonneg L c b
    omega
  · have h1 := hc.2 (by omega)
    subst h1
    rw [sumL_empty L c b (by omega), sumL_empty L c c (by omega)]
    omega
theorem areas_lift (L : Int → Int) (a b : Int) (hL : ∀ s, 0 ≤ s → s < 1099511627776 → 0 ≤ L s ∧ L s ≤ 84) (ha : 0 ≤ a ∧ a ≤ 65535) (hb : 0 ≤ b ∧ b ≤ 65535) :
    min (sumL (addL L a b 1) a b) 1099511627776 = min (sumL L a b) 1099511627776 + max 0 (b - a) := by
  by_cases h : a ≤ b
  · have e : sumL (addL L a b 1) a b = sumL L a b + (b - a) := by
      unfold sumL
      have key : ∀ k : Nat, a + k ≤ b → sumN (addL L a b 1) a k = sumN L a k + k := by
        intro k
        induction k with
        | zero => intro _; rfl
        | succ k ih =>
          intro hk
          unfold sumN
          rw [ih (by omega)]
          have h1 := hL (a + k) (by omega) (by omega)
          have h2 : addL L a b 1 (a + k) = L (a + k) + 1 := by
            unfold addL
            rw [clp_id ha.1 (by omega), clp_id hb.1 (by omega), if_pos (by omega), show cl2 1 = 1 by decide]
            unfold wth mx mn
            (repeat' split) <;> omega
          omega
      rw [key _ (by omega)]
      omega
    have b0 := sumL_le L a b 84 (by omega) h (fun s h3 h4 => (hL s (by omega) (by omega)).2)
    have b1 := sumL_nonneg L a b
    omega
  · rw [sumL_empty _ a b (by omega), sumL_empty _ a b (by omega)]
    omega
theorem areas_most (L : Int → Int) (c m : Int) (hc : 0 ≤ c ∧ c ≤ 65535) (h : Most (forL L c) 0 (c + 1) m) : m = L c := by
  have e0 : clp 0 = 0 := by decide
  have e1 : clp (c + 1) = c + 1 := clp_id (by omega) (by omega)
  have e2 : clp c = c := clp_id hc.1 (by omega)
  obtain ⟨⟨s, h1, h2, h3⟩, _⟩ := h.some (by rw [e0, e1]; omega)
  rw [e0] at h1
  rw [e1] at h2
  unfold forL at h3
  rw [e2] at h3
  split at h3
  · exact h3.symm
  · rw [show s = c by omega] at h3
    exact h3.symm
set_option maxHeartbeats 8000000 in
set_option maxRecDepth 100000 in
theorem areas_law (A : Option Addr) (len cap : Nat) (F : Nat → ActV) (a b c : Int) (w : World) (hF : Acts w A len F) (hl : len ≤ cap) (hc : len ≤ 9223372036854775807) :
    Calls Try.prog 4 #[.slice A len cap, .agg #[.int .i64 a, .int .i64 b], .int .i64 c] w fun e w' => e = .returned (.bool true) ∧ Below w.heap.size w w' := by
  have HF := Aside0.mk hF
  have hu25 := Try.underlying25
  have hu50 := Try.underlying50
  clear hF
  go_enter Try.func4, Try.ntmps4
  go_wp2_with fail
  have hb0 : Below w.heap.size w (w.alloc (.cells #[.int .i64 a, .int .i64 b] 25 (0, 0))) := (Below.refl _ w).alloc (Nat.le_refl _) _
  have hx0 := blk_new w (.cells #[.int .i64 a, .int .i64 b] 25 (0, 0))
  obtain ⟨B, hB⟩ : ∃ B, B = w.heap.size := ⟨_, rfl⟩
  have HBe := Aside0.mk hB
  refine (flat_c 0 _).mono ?_
  rintro e w1 ⟨p, g, rfl, hS, hp, hg, hb⟩
  have HB1 := Aside0.mk (show Below w.heap.size w w1 from below_step hb0 hb)
  have HX1 := Aside0.mk (blk_below hx0 hb)
  have hsz : (w.alloc (.cells #[.int .i64 a, .int .i64 b] 25 (0, 0))).heap.size = w.heap.size + 1 := by simp
  rw [hsz] at hp hg
  rw [← hB] at HX1 hp hg ⊢
  have HS1 := Aside0.mk (hS.mono (show 1 ≤ 1 + 2 * 0 by omega))
  have hpB : B < p := by omega
  have HG1 := Aside0.mk (show B < g by omega)
  clear hb0 hx0 hb hsz hS hp hg hB
  go_upto_block 0 with fail
  go_cut [] from 8 to 36 (fun wx => Aside0 (Below w.heap.size w wx) ∧ Aside0 (wx.heap[B]? = some (.cells #[.int .i64 a, .int .i64 b] 25 (0, 0))) ∧ Aside0 (∃ g' L, B < g' ∧ St wx p g' 25 L ∧ ∀ s, 0 ≤ s → s < 1099511627776 → 0 ≤ L s ∧ L s ≤ 84))
  case first =>
    go_wp2_with fail
    go_loopg [8] 12 (fun kq v8 w' => ∃ i : Nat, 12 - i = kq ∧ v8 = .int .i64 i ∧ Aside0 (i ≤ 12 ∧ i ≤ len) ∧ Aside0 (Below w.heap.size w w') ∧ Aside0 (w'.heap[B]? = some (.cells #[.int .i64 a, .int .i64 b] 25 (0, 0))) ∧ Aside0 (∃ g' L, B < g' ∧ St w' p g' (1 + 2 * i) L ∧ ∀ s, 0 ≤ s → s < 1099511627776 → 0 ≤ L s ∧ L s ≤ 7 * i))
    case atStart => exact ⟨0, rfl, rfl, ⟨by omega⟩, HB1, HX1, ⟨⟨g, _, HG1.out, HS1.out, fun s _ _ => by show 0 ≤ wth 0 ∧ wth 0 ≤ 7 * ((0 : Nat) : Int); decide⟩⟩⟩
    case round =>
      obtain ⟨i, hi, rfl, HI, HB, HX, HS⟩ := hrel
      subst hi
      obtain ⟨g', L, hg', hS, hL⟩ := HS.out
      have HS' := Aside0.mk hS
      have HL := Aside0.mk hL
      clear hS hL
      by_cases hil : i < len
      · have h1 : decide (i < len) = true := decide_eq_true hil
        by_cases hi12 : i < 12
        · have h2 : decide (i < 12) = true := decide_eq_true hi12
          have h2' : (i : Int) < 12 := by omega
          obtain ⟨ad, rfl, c0, c1, c2, c3⟩ := HF.out.below HB.out i hil
          have hb3 : (0 : Int) ≤ (i : Int) := by omega
          have hb4 : (i : Int) < (len : Int) := by omega
          have hab : (ad.add (i * 4)).block < w.heap.size := by
            obtain ⟨ad', e, h, _⟩ := HF.out i hil
            obtain rfl := Option.some.inj e
            exact World.block_lt_of_cell? w _ h
          have HKS : Aside0 (∀ w', Kp wr w' p g' → w'.cell? ⟨(ad.add (i * 4)).block, (ad.add (i * 4)).off + 1, none⟩ = some (.int .i64 (F i).a) ∧ w'.cell? ⟨(ad.add (i * 4)).block, (ad.add (i * 4)).off + 2, none⟩ = some (.int .i64 (F i).b) ∧ w'.cell? ⟨(ad.add (i * 4)).block, (ad.add (i * 4)).off + 3, none⟩ = some (.int .i64 (F i).y)) := ⟨fun w' hk => by
            have e := hk.block (ad.add (i * 4)).block (by have := HB.out.size; omega) (by have := HBe.out; omega) (by have := HBe.out; omega)
            exact ⟨(World.cell?_of_block (a := ⟨_, _, none⟩) e).trans c1, (World.cell?_of_block (a := ⟨_, _, none⟩) e).trans c2, (World.cell?_of_block (a := ⟨_, _, none⟩) e).trans c3⟩⟩
          go_wp2_with fail
          go_region_held3 (fun w' => w'.cell? ⟨(ad.add (i * 4)).block, (ad.add (i * 4)).off + 1, none⟩ = some (.int .i64 (F i).a) ∧ w'.cell? ⟨(ad.add (i * 4)).block, (ad.add (i * 4)).off + 2, none⟩ = some (.int .i64 (F i).b) ∧ w'.cell? ⟨(ad.add (i * 4)).block, (ad.add (i * 4)).off + 3, none⟩ = some (.int .i64 (F i).y))
            (first
              | (go_keep; done)
              | (go_split_ands; exact HKS.out _ HK2.out))
            (((with_reducible refine (add_c p g' (1 + 2 * i) L (F i).a (F i).b (bits .and .i64 (F i).y 7) _ (HS'.out.below (Below.drew (Below.refl _ _))) (by omega)).mono ?_); rintro e w2 ⟨rfl, g2, hS2, hg2, hk2⟩; have HK2 := Aside0.mk (show Kp wr w2 p g' from ((Kp.refl wr p g').drew).trans hk2 (.inl rfl)); have HS2 := Aside0.mk hS2; have HG2 := Aside0.mk (show g2 = g' ∨ wr.heap.size ≤ g2 from hg2); clear hS2 hg2 hk2))
          rename_i hHeld
          clear hHeld
          go_wp2_with fail
          have hyb : 0 ≤ bits .and .i64 (F i).y 7 ∧ bits .and .i64 (F i).y 7 ≤ 7 := bits_and_bd (F i).y 7 (by omega)
          have HR := Aside0.mk (show Below w.heap.size w w2 from HB.out.trans (HK2.out.toBelow w.heap.size HB.out.size (by have := HBe.out; omega) (by have := HBe.out; omega)))
          have HX2 := Aside0.mk ((HK2.out.block B (blk_lt HX.out) (by omega) (by omega)).trans HX.out)
          go_roundg (12 - (i + 1))
          case measure => omega
          case rel => exact ⟨i + 1, rfl, by go_num, ⟨by omega⟩, HR, HX2, ⟨⟨g2, addL L (F i).a (F i).b (bits .and .i64 (F i).y 7), by have := HG2.out; have := blk_lt HX.out; omega, HS2.out, fun s h3 h4 => by
            have h5 := HL.out s h3 h4
            unfold addL
            split
            · rw [show cl2 (bits .and .i64 (F i).y 7) = bits .and .i64 (F i).y 7 by unfold cl2 mx mn; (repeat' split) <;> omega]
              unfold wth mx mn
              (repeat' split) <;> omega
            · omega⟩⟩⟩
        · have h2 : decide (i < 12) = false := decide_eq_false hi12
          have h2' : ¬ ((i : Int) < 12) := by omega
          go_wp2_with fail
          go_meet
          case rel => exact ⟨HB, HX, ⟨⟨g', L, hg', HS'.out.mono (by have := HI.out; omega), fun s h3 h4 => by have := HL.out s h3 h4; have := HI.out; omega⟩⟩⟩
      · have h1 : decide (i < len) = false := decide_eq_false hil
        go_wp2_with fail
        go_meet
        case rel => exact ⟨HB, HX, ⟨⟨g', L, hg', HS'.out.mono (by have := HI.out; omega), fun s h3 h4 => by have := HL.out s h3 h4; have := HI.out; omega⟩⟩⟩
  case rest =>
    obtain ⟨HB, HX, HS⟩ := hcut
    obtain ⟨g', L, hg', hS, hL⟩ := HS.out
    have HS' := Aside0.mk hS
    have HL := Aside0.mk hL
    clear hS hL
    have q0 : wc.cell? ⟨B, 0, none⟩ = some (.int .i64 a) := (blk_cell HX.out 0).trans rfl
    have q1 : wc.cell? ⟨B, 1, none⟩ = some (.int .i64 b) := (blk_cell HX.out 1).trans rfl
    have fz := fun j => blk_frozen HX.out j
    go_upto_region 6 with fail
    go_cut [] from 37 to 45 (fun wx => Aside0 (Below w.heap.size w wx) ∧ Aside0 (wx.heap[B]? = some (.cells #[.int .i64 (bits .and .i64 (clp a) 65535), .int .i64 (bits .and .i64 (clp b) 65535)] 25 (0, 0))) ∧ Aside0 (St wx p g' 25 L))
    case first =>
      go_region_with ((with_reducible refine (clamp_q _ _).mono ?_); rintro e w5 ⟨rfl, rfl⟩)
      all_goals
        go_wp2_with fail
        go_meet
        case rel =>
          refine ⟨⟨?_⟩, ⟨?_⟩, ⟨?_⟩⟩
          · exact ((HB.out.setCell (by have := HBe.out; show w.heap.size ≤ B; omega) _).setCell (by have := HBe.out; show w.heap.size ≤ B; omega) _).drew
          · exact blk_set (blk_set HX.out 0 _) 1 _
          · exact HS'.out.kp ((((Kp.refl wc B B).set _ _ (.inl rfl)).set _ _ (.inl rfl)).drew) (by omega) (by omega) (by omega) (by omega)
    case rest =>
      obtain ⟨HB2, HX2, HS2⟩ := hcut
      have hA0 : 0 ≤ bits .and .i64 (clp a) 65535 ∧ bits .and .i64 (clp a) 65535 ≤ 65535 := bits_and_bd (clp a) 65535 (by omega)
      have hB0 : 0 ≤ bits .and .i64 (clp b) 65535 ∧ bits .and .i64 (clp b) 65535 ≤ 65535 := bits_and_bd (clp b) 65535 (by omega)
      generalize bits .and .i64 (clp a) 65535 = A1 at HX2 hA0
      generalize bits .and .i64 (clp b) 65535 = B1 at HX2 hB0
      clear q0 q1 fz HB HX HS HS' HB1 HX1 HS1 HG1
      have q0 : wc.cell? ⟨B, 0, none⟩ = some (.int .i64 A1) := (blk_cell HX2.out 0).trans rfl
      have q1 : wc.cell? ⟨B, 1, none⟩ = some (.int .i64 B1) := (blk_cell HX2.out 1).trans rfl
      go_upto_region 7 with fail
      go_cut [2] from 46 to 56 (fun v2 wx => v2 = .int .i64 (min (max (clp c) A1) (max A1 B1)) ∧ Aside0 (Below wc.heap.size wc wx))
      case first =>
        go_quiet ((go_at_call 20; exact Calls.quiet_of_same (clamp_q _ _)))
        go_wp2_with fail
        go_meet
        case rel => exact ⟨by first | rfl | simp, ⟨pw_below_drewN (Below.refl _ _) _⟩⟩
      case rest =>
        obtain ⟨rfl, HW3⟩ := hcut
        have hC0 : 0 ≤ min (max (clp c) A1) (max A1 B1) ∧ min (max (clp c) A1) (max A1 B1) ≤ 65535 ∧ ((A1 ≤ B1 → A1 ≤ min (max (clp c) A1) (max A1 B1) ∧ min (max (clp c) A1) (max A1 B1) ≤ B1) ∧ (B1 < A1 → min (max (clp c) A1) (max A1 B1) = A1)) := by
          have := clp_bd c
          omega
        generalize min (max (clp c) A1) (max A1 B1) = C1 at hC0
        have HB3 := Aside0.mk (below_step HB2.out HW3.out)
        have HX3 := Aside0.mk (blk_below HX2.out HW3.out)
        have HS3 := Aside0.mk (HS2.out.below HW3.out)
        clear q0 q1 HW3 HB2 HX2 HS2
        obtain ⟨hsum, hs0, hs1⟩ := areas_sum L A1 B1 C1 HL.out hA0 hB0 hC0.2.2
        have hlift := areas_lift L A1 B1 HL.out hA0 hB0
        obtain ⟨ar, har⟩ : ∃ ar, min (sumL L A1 B1) 1099511627776 = ar := ⟨_, rfl⟩
        obtain ⟨ar1, har1⟩ : ∃ ar, min (sumL L A1 C1) 1099511627776 = ar := ⟨_, rfl⟩
        obtain ⟨ar2, har2⟩ : ∃ ar, min (sumL L C1 B1) 1099511627776 = ar := ⟨_, rfl⟩
        rw [har, har1, har2] at hsum
        rw [har] at hlift
        have har0 : 0 ≤ ar ∧ ar ≤ 5504940 := by omega
        have har3 : 0 ≤ ar1 ∧ 0 ≤ ar2 := by
          have := sumL_nonneg L A1 C1
          have := sumL_nonneg L C1 B1
          omega
        have HAR := Aside0.mk har
        have HAR1 := Aside0.mk har1
        have HAR2 := Aside0.mk har2
        have HSUM := Aside0.mk hsum
        have HLIFT := Aside0.mk hlift
        have hw1 : IntKind.i64.wrap (ar1 + ar2) = ar1 + ar2 := IntWalk.i64_in _ (by omega)
        have hw2 : IntKind.i64.wrap (ar + max 0 (B1 - A1)) = ar + max 0 (B1 - A1) := IntWalk.i64_in _ (by omega)
        have hAA : 0 ≤ A1 ∧ A1 ≤ 1099511627776 := by omega
        have hBB : 0 ≤ B1 ∧ B1 ≤ 1099511627776 := by omega
        have hCC : 0 ≤ C1 ∧ C1 ≤ 1099511627776 := by omega
        have HAA := Aside0.mk hAA
        have HBB := Aside0.mk hBB
        have HCC := Aside0.mk hCC
        have HA0 := Aside0.mk hA0
        have HB0 := Aside0.mk hB0
        have HC0 := Aside0.mk hC0
        clear hsum hlift har har1 har2 hs0 hs1 hA0 hB0 hC0 hAA hBB hCC
        have q0 : wc.cell? ⟨B, 0, none⟩ = some (.int .i64 A1) := (blk_cell HX3.out 0).trans rfl
        have q1 : wc.cell? ⟨B, 1, none⟩ = some (.int .i64 B1) := (blk_cell HX3.out 1).trans rfl
        go_wp2_with fail
        refine (area_v p g' 25 L A1 B1 ar _ HS3.out (by omega) HAA.out HBB.out HAR.out).mono ?_
        rintro e w5 ⟨rfl, hb⟩
        have HB5 := Aside0.mk (below_step HB3.out hb)
        have HX5 := Aside0.mk (blk_below HX3.out hb)
        have HS5 := Aside0.mk (HS3.out.below hb)
        clear q0 q1 hb
        have q0 : w5.cell? ⟨B, 0, none⟩ = some (.int .i64 A1) := (blk_cell HX5.out 0).trans rfl
        have q1 : w5.cell? ⟨B, 1, none⟩ = some (.int .i64 B1) := (blk_cell HX5.out 1).trans rfl
        have KS : Aside0 (∀ w', Below w5.heap.size w5 w' → w'.cell? ⟨B, 0, none⟩ = some (.int .i64 A1) ∧ w'.cell? ⟨B, 1, none⟩ = some (.int .i64 B1)) := ⟨fun w' hb => ⟨(blk_cell (blk_below HX5.out hb) 0).trans rfl, (blk_cell (blk_below HX5.out hb) 1).trans rfl⟩⟩
        go_upto_region 9 with fail
        go_cut [74] from 60 to 74 (fun v wx => v = .bool false ∧ Aside0 (Below w5.heap.size w5 wx))
        case first =>
          go_region_held3 (fun w' => w'.cell? ⟨B, 0, none⟩ = some (.int .i64 A1) ∧ w'.cell? ⟨B, 1, none⟩ = some (.int .i64 B1))
            (first
              | (go_keep; done)
              | exact KS.out _ HB7.out
              | exact KS.out _ HB6.out)
            (first
              | ((with_reducible refine (area_v p g' 25 L A1 C1 ar1 _ (HS5.out.below (Below.drew (Below.refl _ _))) (by omega) HAA.out HCC.out HAR1.out).mono ?_); rintro e w6 ⟨rfl, hb⟩; have HB6 := Aside0.mk (show Below w5.heap.size w5 w6 from (Below.refl _ w5).drew.trans hb); clear hb)
              | ((with_reducible refine (area_v p g' 25 L C1 B1 ar2 _ (HS5.out.below HB6.out) (by omega) HCC.out HBB.out HAR2.out).mono ?_); rintro e w7 ⟨rfl, hb⟩; have HB7 := Aside0.mk (show Below w5.heap.size w5 w7 from below_step HB6.out hb); clear hb))
          all_goals
            go_wp2_with fail
            go_meet
            case rel =>
              refine ⟨?_, HB7⟩
              have := HSUM.out
              first | rfl | (simp; omega)
        case rest =>
          obtain ⟨rfl, HW6⟩ := hcut
          have HB6 := Aside0.mk (below_step HB5.out HW6.out)
          have HX6 := Aside0.mk (blk_below HX5.out HW6.out)
          have HS6 := Aside0.mk (HS5.out.below HW6.out)
          clear q0 q1 HW6 KS HB5 HX5 HS5 HB3 HX3 HS3
          go_wp2_with fail
          refine (clone_c p g' 25 L _ HS6.out (by omega)).mono ?_
          rintro e w7 ⟨p2, g2, rfl, hS2, hp2, hg2, hb⟩
          have HB7 := Aside0.mk (below_step HB6.out hb)
          have HX7 := Aside0.mk (blk_below HX6.out hb)
          have HS7 := Aside0.mk (HS6.out.below hb)
          have HU7 := Aside0.mk hS2
          have hBl : B < wc.heap.size := blk_lt HX6.out
          have hpl : p < wc.heap.size := HS6.out.lt
          have hgl : g' < wc.heap.size := HS6.out.glt
          have HNE := Aside0.mk (show B < p2 ∧ B < g2 ∧ p < p2 ∧ p < g2 ∧ g' < p2 ∧ g' < g2 by omega)
          clear hS2 hp2 hg2 hb hBl hpl hgl
          have q0 : w7.cell? ⟨B, 0, none⟩ = some (.int .i64 A1) := (blk_cell HX7.out 0).trans rfl
          have q1 : w7.cell? ⟨B, 1, none⟩ = some (.int .i64 B1) := (blk_cell HX7.out 1).trans rfl
          go_wp2_with fail
          refine (add_c p2 g2 25 L A1 B1 1 _ HU7.out (by omega)).mono ?_
          rintro e w8 ⟨rfl, g3, hS3, hg3, hk⟩
          have HB8 := Aside0.mk (HB7.out.trans (hk.toBelow w.heap.size HB7.out.size (by have := HNE.out; have := HBe.out; omega) (by have := HNE.out; have := HBe.out; omega)))
          have HX8 := Aside0.mk ((hk.block B (blk_lt HX7.out) (by have := HNE.out; omega) (by have := HNE.out; omega)).trans HX7.out)
          have HS8 := Aside0.mk (HS7.out.kp hk (by have := HNE.out; omega) (by have := HNE.out; omega) (by have := HNE.out; omega) (by have := HNE.out; omega))
          have HU8 := Aside0.mk hS3
          clear q0 q1 hS3 hg3 hk
          have q0 : w8.cell? ⟨B, 0, none⟩ = some (.int .i64 A1) := (blk_cell HX8.out 0).trans rfl
          have q1 : w8.cell? ⟨B, 1, none⟩ = some (.int .i64 B1) := (blk_cell HX8.out 1).trans rfl
          have KS8 : Aside0 (∀ w', Below w8.heap.size w8 w' → w'.cell? ⟨B, 0, none⟩ = some (.int .i64 A1) ∧ w'.cell? ⟨B, 1, none⟩ = some (.int .i64 B1)) := ⟨fun w' hb => ⟨(blk_cell (blk_below HX8.out hb) 0).trans rfl, (blk_cell (blk_below HX8.out hb) 1).trans rfl⟩⟩
          go_upto_region 13 with fail
          go_cut [87] from 80 to 87 (fun v wx => v = .bool false ∧ Aside0 (Below w8.heap.size w8 wx))
          case first =>
            go_region_held3 (fun w' => w'.cell? ⟨B, 0, none⟩ = some (.int .i64 A1) ∧ w'.cell? ⟨B, 1, none⟩ = some (.int .i64 B1))
              (first
                | (go_keep; done)
                | exact KS8.out _ HBb.out
                | exact KS8.out _ HBa.out)
              (first
                | ((with_reducible refine (area_v p2 g3 27 (addL L A1 B1 1) A1 B1 (ar + max 0 (B1 - A1)) _ (HU8.out.below (Below.drew (Below.refl _ _))) (by omega) HAA.out HBB.out HLIFT.out).mono ?_); rintro e w9 ⟨rfl, hb⟩; have HBa := Aside0.mk (show Below w8.heap.size w8 w9 from (Below.refl _ w8).drew.trans hb); clear hb)
                | ((with_reducible refine (len_v A1 B1 _ HA0.out HB0.out).mono ?_); rintro e w10 ⟨rfl, hb⟩; have HBb := Aside0.mk (show Below w8.heap.size w8 w10 from below_step HBa.out hb); clear hb))
            all_goals
              go_wp2_with fail
              go_meet
              case rel =>
                refine ⟨?_, HBb⟩
                first | rfl | simp
          case rest =>
            obtain ⟨rfl, HW8⟩ := hcut
            have HB9 := Aside0.mk (below_step HB8.out HW8.out)
            have HX9 := Aside0.mk (blk_below HX8.out HW8.out)
            have HS9 := Aside0.mk (HS8.out.below HW8.out)
            clear q0 q1 HW8 KS8 HB8 HX8 HS8 HB7 HX7 HS7 HB6 HX6 HS6
            obtain ⟨lv, hlv⟩ : ∃ lv, L C1 = lv := ⟨_, rfl⟩
            obtain ⟨lb, hlb⟩ : ∃ lb, L (C1 + 9) = lb := ⟨_, rfl⟩
            have ec : clp C1 = C1 := clp_id HCC.out.1 HCC.out.2
            have hc1 := HC0.out
            have hf0 : forL L C1 0 = lv := by
              unfold forL
              rw [ec]
              split
              · exact hlv
              · rw [show (0 : Int) = C1 by omega]; exact hlv
            have hf1 : forL L C1 C1 = lv := by
              unfold forL
              rw [ec, if_neg (by omega)]
              exact hlv
            have hf2 : forL L C1 (C1 + 9) = lb := by
              unfold forL
              rw [ec, if_neg (by omega)]
              exact hlb
            have hmost : ∀ m, Most (forL L C1) 0 (C1 + 1) m → m = lv := fun m h => by rw [← hlv]; exact areas_most L C1 m ⟨hc1.1, hc1.2.1⟩ h
            have HLV := Aside0.mk hlv
            have HLB := Aside0.mk hlb
            have HF0 := Aside0.mk hf0
            have HF1 := Aside0.mk hf1
            have HF2 := Aside0.mk hf2
            have HMO := Aside0.mk hmost
            obtain ⟨hc2, hc3, _⟩ := hc1
            have hw3 : IntKind.i64.wrap (C1 + 9) = C1 + 9 := IntWalk.i64_in _ (by omega)
            have hw4 : IntKind.i64.wrap (C1 + 1) = C1 + 1 := IntWalk.i64_in _ (by omega)
            clear hlv hlb hf0 hf1 hf2 hmost ec
            go_wp2_with fail
            refine (at_v p g' 25 L C1 lv _ HS9.out (by omega) (by omega) HLV.out).mono ?_
            rintro e wa ⟨rfl, hb⟩
            have HBa := Aside0.mk (below_step HB9.out hb)
            have HSa := Aside0.mk (HS9.out.below hb)
            clear hb
            go_wp2_with fail
            refine (at_v p g' 25 L (C1 + 9) lb _ HSa.out (by omega) (by omega) HLB.out).mono ?_
            rintro e wb ⟨rfl, hb⟩
            have HBb := Aside0.mk (below_step HBa.out hb)
            have HSb := Aside0.mk (HSa.out.below hb)
            clear hb
            go_wp2_with fail
            refine (forget_c p g' 25 L C1 _ HSb.out (by omega)).mono ?_
            rintro e wd ⟨rfl, g4, hS4, hg4, hk⟩
            have HBd := Aside0.mk (HBb.out.trans (hk.toBelow w.heap.size HBb.out.size (by have := HBe.out; omega) (by have := HBe.out; omega)))
            have HSd := Aside0.mk hS4
            clear hS4 hg4 hk
            go_wp2_with fail
            refine (at_v p g4 27 (forL L C1) 0 lv _ HSd.out (by omega) (by omega) HF0.out).mono ?_
            rintro e we ⟨rfl, hb⟩
            have HBf := Aside0.mk (below_step HBd.out hb)
            have HSf := Aside0.mk (HSd.out.below hb)
            clear hb
            go_wp2_with fail
            refine (at_v p g4 27 (forL L C1) C1 lv _ HSf.out (by omega) (by omega) HF1.out).mono ?_
            rintro e wf ⟨rfl, hb⟩
            have HBg := Aside0.mk (below_step HBf.out hb)
            have HSg := Aside0.mk (HSf.out.below hb)
            clear hb
            go_wp2_with fail
            refine (at_v p g4 27 (forL L C1) (C1 + 9) lb _ HSg.out (by omega) (by omega) HF2.out).mono ?_
            rintro e wg ⟨rfl, hb⟩
            have HBh := Aside0.mk (below_step HBg.out hb)
            have HSh := Aside0.mk (HSg.out.below hb)
            clear hb
            go_wp2_with fail
            refine (most_v p g4 27 (forL L C1) 0 (C1 + 1) lv _ HSh.out (by omega) HMO.out).mono ?_
            rintro e wh ⟨rfl, hb⟩
            have HBi := Aside0.mk (below_step HBh.out hb)
            clear hb
            go_wp2_with fail
            refine (one_c _).mono ?_
            rintro e wi ⟨rfl, hb⟩
            have HBj := Aside0.mk (below_step HBi.out hb)
            clear hb
            go_wp2_with fail
            go_ret
            exact ⟨rfl, HBj.out⟩
end Go.Proofs.Ytaeifdmabkjoiaa.PPU
