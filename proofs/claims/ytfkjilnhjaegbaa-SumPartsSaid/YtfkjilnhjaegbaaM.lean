/- The plain law: what Take, Sum and the references compute, over lists of numbers. -/
import Derived.Test.YtfkjilnhjaegbaaS4
namespace Go.Proofs.Ytfkjilnhjaegbaa.PSum
open Go.RowKit Go.Proofs.YtfkjilnhjaegbaaW.PrintWords Go.Proofs.YtfkjilnhjaegbaaW.PrintLast Go.Proofs.YtfkjilnhjaegbaaW.PrintMore

def Bytes (l : List Int) : Prop := ∀ x ∈ l, 0 ≤ x ∧ x < 256
def stepT (p : Int × Int) (c : Int) : Int × Int := ((p.1 + c) % 65521, (p.2 + (p.1 + c) % 65521) % 65521)
def tk (p : Int × Int) (l : List Int) : Int × Int := l.foldl stepT p
theorem tk_nil (p) : tk p [] = p := rfl
theorem tk_cons (p c l) : tk p (c :: l) = tk (stepT p c) l := rfl
theorem tk_append (p l m) : tk p (l ++ m) = tk (tk p l) m := List.foldl_append
def U32 (x : Int) : Prop := 0 ≤ x ∧ x < 4294967296
theorem stepT_u32 (p c) : U32 (stepT p c).1 ∧ U32 (stepT p c).2 := by unfold U32 stepT; simp only; omega
theorem stepT_mod (p c) : (0 ≤ (stepT p c).1 ∧ (stepT p c).1 < 65521) ∧ 0 ≤ (stepT p c).2 ∧ (stepT p c).2 < 65521 := by unfold stepT; simp only; omega
theorem tk_u32 (l) : ∀ p : Int × Int, U32 p.1 → U32 p.2 → U32 (tk p l).1 ∧ U32 (tk p l).2 := by
  induction l with
  | nil => intro p h1 h2; exact ⟨h1, h2⟩
  | cons c l ih => intro p _ _; rw [tk_cons]; exact ih _ (stepT_u32 p c).1 (stepT_u32 p c).2
theorem tk_mod (l) : ∀ p : Int × Int, (0 ≤ p.1 ∧ p.1 < 65521) → (0 ≤ p.2 ∧ p.2 < 65521) → (0 ≤ (tk p l).1 ∧ (tk p l).1 < 65521) ∧ 0 ≤ (tk p l).2 ∧ (tk p l).2 < 65521 := by
  induction l with
  | nil => intro p h1 h2; exact ⟨h1, h2⟩
  | cons c l ih => intro p _ _; rw [tk_cons]; exact ih _ (stepT_mod p c).1 (stepT_mod p c).2

theorem add_ok (a b : Int) (ha : U32 a) (hb : U32 b) : sum_add.f a b = some ((a + b) % 65521) := by
  unfold U32 at ha hb
  unfold sum_add.f
  rw [IntKind.wrap_u64, IntKind.wrap_u64, IntKind.wrap_u64, Int.emod_eq_of_lt (a := a) (by omega) (by omega), Int.emod_eq_of_lt (a := b) (by omega) (by omega), Int.emod_eq_of_lt (a := a + b) (by omega) (by omega), Int.tmod_eq_emod_of_nonneg (by omega)]
  congr 1
  omega

theorem rd_drop (l : List Int) (i : Nat) (h : i < l.length) : l.drop i = rd l i :: l.drop (i + 1) := by
  rw [List.drop_eq_getElem_cons h]
  unfold rd
  simp [List.getD_eq_getElem?_getD, h]
theorem rd_mem (l : List Int) (i : Nat) (h : i < l.length) : rd l i ∈ l := by
  unfold rd
  simp [List.getD_eq_getElem?_getD, h]

theorem take_l0 (l : List Int) (hl : Bytes l) (hn : l.length < 9223372036854775807) (d : Nat) : ∀ (k i : Nat) (a b : Int), l.length - i = d → i ≤ l.length → d < k → U32 a → U32 b →
    sum_Running_Take.l0 k l (l.length : Int) (i : Int) a b = some (tk (a, b) (l.drop i)) := by
  induction d with
  | zero =>
    intro k i a b hd hi hk ha hb
    obtain ⟨k, rfl⟩ : ∃ m, k = m + 1 := ⟨k - 1, by omega⟩
    simp only [sum_Running_Take.l0]
    rw [if_neg (by omega), List.drop_eq_nil_of_le (by omega)]; rfl
  | succ d ih =>
    intro k i a b hd hi hk ha hb
    obtain ⟨k, rfl⟩ : ∃ m, k = m + 1 := ⟨k - 1, by omega⟩
    have hb0 := hl _ (rd_mem l i (by omega))
    simp only [sum_Running_Take.l0]
    rw [if_pos (by omega), if_pos (by omega), if_pos (by omega), add_ok a _ ha (by unfold U32; omega)]
    simp only [Option.bind_some]
    rw [add_ok b _ hb (by unfold U32; omega)]
    simp only [Option.bind_some]
    have hw : wrap64 ((i : Int) + 1) = ((i + 1 : Nat) : Int) := by unfold wrap64; omega
    rw [hw, ih k (i + 1) _ _ (by omega) (by omega) (by omega) (by unfold U32; omega) (by unfold U32; omega), rd_drop l i (by omega), tk_cons]
    simp only [stepT]
    rw [Int.emod_eq_of_lt (a := rd l i) (by omega) (by omega)]

theorem take_ok (k : Nat) (l : List Int) (hl : Bytes l) (hn : l.length < 9223372036854775807) (a b : Int) (ha : U32 a) (hb : U32 b) (hk : l.length < k) :
    sum_Running_Take.f k a b l = some (tk (a, b) l) := by
  unfold sum_Running_Take.f
  have := take_l0 l hl hn l.length k 0 a b (by omega) (by omega) hk ha hb
  simpa using this

theorem bt_str (l : List Int) (hl : Bytes l) (i : Nat) (h : i < l.length) : bt (strOfNums l) i = rd l i := by
  have hr := hl _ (rd_mem l i h)
  unfold bt
  have hs : ((i : Int)).toNat < (strOfNums l).size := by rw [strOfNums_size]; simpa using h
  rw [dif_pos hs]
  have h2 : (strOfNums l)[((i : Int)).toNat]'hs = UInt8.ofNat (rd l i).toNat := by
    show (strOfNums l).data[((i : Int)).toNat]'_ = _
    simp [strOfNums, rd, List.getD_eq_getElem?_getD, h]
  rw [h2]
  simp only [UInt8.toNat_ofNat']
  omega

theorem rtake_l0 (l : List Int) (hl : Bytes l) (hn : l.length < 9223372036854775807) (d : Nat) : ∀ (k i : Nat) (a b : Int), l.length - i = d → i ≤ l.length → d < k → U32 a → U32 b →
    berthingref03_Take.l0 k (strOfNums l) a b (i : Int) = some (tk (a, b) (l.drop i)) := by
  induction d with
  | zero =>
    intro k i a b hd hi hk ha hb
    obtain ⟨k, rfl⟩ : ∃ m, k = m + 1 := ⟨k - 1, by omega⟩
    simp only [berthingref03_Take.l0]
    rw [if_neg (by rw [strOfNums_size]; omega), List.drop_eq_nil_of_le (by omega)]
    unfold U32 at ha hb
    rw [Int.emod_eq_of_lt (by omega) (by omega), Int.emod_eq_of_lt (by omega) (by omega)]; rfl
  | succ d ih =>
    intro k i a b hd hi hk ha hb
    obtain ⟨k, rfl⟩ : ∃ m, k = m + 1 := ⟨k - 1, by omega⟩
    have hb0 := hl _ (rd_mem l i (by omega))
    simp only [berthingref03_Take.l0]
    rw [if_pos (by rw [strOfNums_size]; omega), if_pos (by omega), bt_str l hl i (by omega)]
    unfold U32 at ha hb
    have e1 : IntKind.u64.wrap (rd l i) = rd l i := by rw [IntKind.wrap_u64]; omega
    have e2 : IntKind.u64.wrap (a + rd l i) = a + rd l i := by rw [IntKind.wrap_u64]; omega
    rw [e1, e2, Int.tmod_eq_emod_of_nonneg (by omega)]
    have e3 : IntKind.u64.wrap (b + (a + rd l i) % 65521) = b + (a + rd l i) % 65521 := by rw [IntKind.wrap_u64]; omega
    rw [e3, Int.tmod_eq_emod_of_nonneg (by omega)]
    have hw : wrap64 ((i : Int) + 1) = ((i + 1 : Nat) : Int) := by unfold wrap64; omega
    clear e1 e2 e3
    rw [hw]
    clear hw
    have hih := ih k (i + 1) _ _ (by omega) (by omega) (by omega) (stepT_u32 (a, b) (rd l i)).1 (stepT_u32 (a, b) (rd l i)).2
    simp only [stepT] at hih
    rw [hih, rd_drop l i (by omega), tk_cons]
    rfl

theorem rtake_ok (k : Nat) (l : List Int) (hl : Bytes l) (hn : l.length < 9223372036854775807) (a b : Int) (ha : U32 a) (hb : U32 b) (hk : l.length < k) :
    berthingref03_Take.f k a b (strOfNums l) = some (tk (a, b) l) := by
  unfold berthingref03_Take.f
  have := rtake_l0 l hl hn l.length k 0 a b (by omega) (by omega) hk ha hb
  unfold U32 at ha hb
  rw [IntKind.wrap_u64, IntKind.wrap_u64, Int.emod_eq_of_lt (by omega) (by omega), Int.emod_eq_of_lt (by omega) (by omega)]
  simpa using this

def val (p : Int × Int) : Int := (p.2 * 65536 % 4294967296 + p.1) % 4294967296
theorem value_ok (p : Int × Int) : sum_Running_Value.f p.1 p.2 = some (val p) := rfl

theorem rd_L1_at (l : List (List Int)) (i : Nat) (x : List Int) (h : l[i]? = some x) : rd_L1 l i = x := by
  unfold rd_L1
  simp [List.getD_eq_getElem?_getD, h]

theorem sum_l0 (l : List (List Int)) (K : Nat) (hl : ∀ x ∈ l, Bytes x ∧ x.length < K) (hK : K < 9223372036854775807) (hn : l.length < 9223372036854775807) (d : Nat) : ∀ (k i : Nat) (a b : Int), l.length - i = d → i ≤ l.length → d + K < k → U32 a → U32 b →
    sum_Sum.l0 k l (l.length : Int) (i : Int) a b = some (val (tk (a, b) (l.drop i).flatten)) := by
  induction d with
  | zero =>
    intro k i a b hd hi hk ha hb
    obtain ⟨k, rfl⟩ : ∃ m, k = m + 1 := ⟨k - 1, by omega⟩
    simp only [sum_Sum.l0]
    rw [if_neg (by omega), List.drop_eq_nil_of_le (by omega)]
    exact congrArg (Option.bind · _) (value_ok (a, b))
  | succ d ih =>
    intro k i a b hd hi hk ha hb
    obtain ⟨k, rfl⟩ : ∃ m, k = m + 1 := ⟨k - 1, by omega⟩
    have hi' : i < l.length := by omega
    have hx := hl _ (List.getElem_mem hi')
    simp only [sum_Sum.l0]
    rw [if_pos (by omega), if_pos (by omega), if_pos (by omega), rd_L1_at l i _ (List.getElem?_eq_getElem hi'), take_ok k _ hx.1 (by omega) a b ha hb (by omega)]
    simp only [Option.bind_some]
    have hw : wrap64 ((i : Int) + 1) = ((i + 1 : Nat) : Int) := by unfold wrap64; omega
    have hu := tk_u32 l[i] (a, b) ha hb
    rw [hw, ih k (i + 1) _ _ (by omega) (by omega) (by omega) hu.1 hu.2, List.drop_eq_getElem_cons hi', List.flatten_cons, tk_append]

/-- The check sum of texts. -/
def cs (l : List Int) : Int := val (tk (1, 0) l)
theorem sum_ok (k K : Nat) (l : List (List Int)) (hl : ∀ x ∈ l, Bytes x ∧ x.length < K) (hK : K < 9223372036854775807) (hn : l.length < 9223372036854775807) (hk : l.length + K < k) :
    sum_Sum.f k l = some (cs l.flatten) := by
  have := sum_l0 l K hl hK hn l.length k 0 1 0 (by omega) (by omega) hk (by unfold U32; omega) (by unfold U32; omega)
  unfold sum_Sum.f sum_Begin.f cs
  simpa using this

theorem rsum_l0 (l : List Int) (hl : Bytes l) (hn : l.length < 9223372036854775807) (d : Nat) : ∀ (k i : Nat) (a b : Int), l.length - i = d → i ≤ l.length → d < k → (0 ≤ a ∧ a < 65521) → (0 ≤ b ∧ b < 65521) →
    berthingref03_Sum.l0 k (strOfNums l) a b (i : Int) = some (val (tk (a, b) (l.drop i))) := by
  induction d with
  | zero =>
    intro k i a b hd hi hk ha hb
    obtain ⟨k, rfl⟩ : ∃ m, k = m + 1 := ⟨k - 1, by omega⟩
    simp only [berthingref03_Sum.l0]
    rw [if_neg (by rw [strOfNums_size]; omega), List.drop_eq_nil_of_le (by omega), tk_nil]
    rw [Int.emod_eq_of_lt (a := b) (by omega) (by omega), Int.emod_eq_of_lt (a := a) (by omega) (by omega)]
    rfl
  | succ d ih =>
    intro k i a b hd hi hk ha hb
    obtain ⟨k, rfl⟩ : ∃ m, k = m + 1 := ⟨k - 1, by omega⟩
    have hb0 := hl _ (rd_mem l i (by omega))
    simp only [berthingref03_Sum.l0]
    rw [if_pos (by rw [strOfNums_size]; omega), if_pos (by omega), bt_str l hl i (by omega)]
    have e1 : wrap64 (rd l i) = rd l i := by unfold wrap64; omega
    have e2 : wrap64 (a + rd l i) = a + rd l i := by unfold wrap64; omega
    rw [e1, e2, Int.tmod_eq_emod_of_nonneg (by omega)]
    have e3 : wrap64 (b + (a + rd l i) % 65521) = b + (a + rd l i) % 65521 := by unfold wrap64; omega
    rw [e3, Int.tmod_eq_emod_of_nonneg (by omega)]
    have hw : wrap64 ((i : Int) + 1) = ((i + 1 : Nat) : Int) := by unfold wrap64; omega
    clear e1 e2 e3
    rw [hw]
    clear hw
    have hih := ih k (i + 1) _ _ (by omega) (by omega) (by omega) (stepT_mod (a, b) (rd l i)).1 (stepT_mod (a, b) (rd l i)).2
    simp only [stepT] at hih
    rw [hih, rd_drop l i (by omega), tk_cons]
    rfl
theorem rsum_ok (k : Nat) (l : List Int) (hl : Bytes l) (hn : l.length < 9223372036854775807) (hk : l.length < k) :
    berthingref03_Sum.f k (strOfNums l) = some (cs l) := by
  unfold berthingref03_Sum.f cs
  have := rsum_l0 l hl hn l.length k 0 1 0 (by omega) (by omega) hk (by omega) (by omega)
  simpa using this
end Go.Proofs.Ytfkjilnhjaegbaa.PSum
