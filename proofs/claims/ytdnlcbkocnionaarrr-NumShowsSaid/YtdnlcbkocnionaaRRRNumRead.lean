/- What num.Read and its reference compute, in plain numbers; the reference's Show. -/
import Derived.Test.YtdnlcbkocnionaaRRRNumDig
import Derived.Test.YtdnlcbkocnionaaRRRNumLive
import Derived.Test.YtdnlcbkocnionaaRRRPNumx
import Derived.Lib.Strings
namespace Go.Proofs.YtdnlcbkocnionaaRRR.NumP
open Go.RowKit Go.Proofs.YtdnlcbkocnionaaRRRW.PrintWords Go.Proofs.YtdnlcbkocnionaaRRRW.PrintLast Go.Proofs.YtdnlcbkocnionaaRRRW.PrintMore
open Go.Proofs.YtdnlcbkocnionaaRRR.PNum Go.Proofs.YtdnlcbkocnionaaRRR.NumW

theorem bt_bl (s : ByteArray) (i : Nat) (h : i < s.size) : bt s (i : Int) = (((bl s)[i]'(by rw [bl_length]; exact h) : Nat) : Int) := by
  unfold bt
  rw [dif_pos (by simpa using h)]
  simp [bl]
  rfl
theorem drop_bl (s : ByteArray) (i : Nat) (h : i < s.size) : ∃ d : Nat, d < 256 ∧ (bl s).drop i = d :: (bl s).drop (i + 1) ∧ bt s (i : Int) = (d : Int) := by
  refine ⟨(bl s)[i]'(by rw [bl_length]; exact h), bl_lt s _ (List.getElem_mem _), ?_, bt_bl s i h⟩
  rw [← List.drop_eq_getElem_cons]
theorem bl_extract (s : ByteArray) : bl (s.extract 1 s.size) = (bl s).drop 1 := by
  unfold bl
  rw [Lib.extract_data, List.take_of_length_le (by simp), List.map_drop]

instance (d : Nat) : Decidable (isD d) := by unfold isD; infer_instance

/-- What is read of the digits alone. -/
def digitsS (b : Bool) (l : List Nat) : Int × Int :=
  if ∀ d ∈ l, isD d then okI (if b then -(val 0 l : Int) else (val 0 l : Int)) else (0, 4)

theorem wrap_nat (i : Nat) (n : Nat) (h : i < n) (hn : n ≤ 140737488351232) : wrap64 ((i : Int) + 1) = ((i + 1 : Nat) : Int) := by
  unfold wrap64; omega

theorem l1_eq (b : Bool) (d : ByteArray) (hs : d.size ≤ 19) (hd : ∀ x ∈ bl d, isD x) (m : Nat) : ∀ (k i a : Nat), i + m = d.size → m + 1 < k → a < 10 ^ i →
    num_Read.l1 k b d (a : Int) (d.size : Int) (i : Int) = some (okI (if b then -(val a ((bl d).drop i) : Int) else (val a ((bl d).drop i) : Int))) := by
  induction m with
  | zero =>
    intro k i a hi hk ha
    obtain ⟨k, rfl⟩ : ∃ m, k = m + 1 + 1 := ⟨k - 2, by omega⟩
    simp only [num_Read.l1]
    rw [if_neg (by omega)]
    have hp : 10 ^ i ≤ 10 ^ 19 := Nat.pow_le_pow_right (by omega) (by omega)
    rw [signed_eq k _ _ (by omega) (by omega)]
    have : (bl d).drop i = [] := List.drop_eq_nil_of_le (by rw [bl_length]; omega)
    rw [this]
    rfl
  | succ m ih =>
    intro k i a hi hk ha
    obtain ⟨k, rfl⟩ : ∃ m, k = m + 1 := ⟨k - 1, by omega⟩
    simp only [num_Read.l1]
    rw [if_pos (by omega), if_pos (by omega), if_pos (by omega)]
    obtain ⟨x, hx, hdr, hbt⟩ := drop_bl d i (by omega)
    have hxd : isD x := hd x (List.mem_of_mem_drop (by rw [hdr]; simp))
    unfold isD at hxd
    have hp : 10 ^ (i + 1) ≤ 10 ^ 19 := Nat.pow_le_pow_right (by omega) (by omega)
    have hst : step a x < 10 ^ (i + 1) := by rw [step_eq, Nat.pow_succ]; omega
    rw [hbt, wrap_nat i d.size (by omega) (by omega)]
    have e : IntKind.u64.wrap (IntKind.u64.wrap ((a : Int) * 10) + ((x : Int) - 48) % 256) = ((step a x : Nat) : Int) := by
      rw [u64w, u64w, step_eq]
      rw [step_eq] at hst
      omega
    rw [e, ih k (i + 1) (step a x) (by omega) (by omega) hst, hdr]
    rfl

theorem l0_eq (b : Bool) (d : ByteArray) (hs : d.size ≤ 140737488351232) (hz : d.size ≤ 1 ∨ (bl d).head? ≠ some 48) (m : Nat) : ∀ (k i : Nat), i + m = d.size → m + d.size + 3 < k → (∀ x ∈ (bl d).take i, isD x) →
    num_Read.l0 k b d (d.size : Int) (i : Int) = some (digitsS b (bl d)) := by
  induction m with
  | zero =>
    intro k i hi hk ht
    obtain ⟨k, rfl⟩ : ∃ m, k = m + 1 := ⟨k - 1, by omega⟩
    rw [List.take_of_length_le (by rw [bl_length]; omega)] at ht
    simp only [num_Read.l0]; unfold digitsS
    rw [if_neg (by omega), if_pos ht]
    by_cases h19 : d.size > 19
    · rw [if_pos (by omega)]
      have hbig : 10 ^ 19 ≤ val 0 (bl d) := by
        have hl := bl_length d
        cases hb : bl d with
        | nil => rw [hb] at hl; simp at hl; omega
        | cons x t =>
          rw [hb] at hl hz ht
          have hx := ht x (by simp)
          have hne : x ≠ 48 := fun e => by
            rcases hz with hz | hz
            · omega
            · exact hz (by simp [e])
          unfold isD at hx
          have := val_big t (step 0 x) 0 (by rw [step_eq]; simp; omega)
          simp only [val]
          refine Nat.le_trans ?_ this
          exact Nat.pow_le_pow_right (by omega) (by simp at hl; omega)
      rw [okI_out]
      unfold R64
      split <;> omega
    · rw [if_neg (by omega)]
      exact l1_eq b d (by omega) ht d.size k 0 0 (by omega) (by omega) (by simp)
  | succ m ih =>
    intro k i hi hk ht
    obtain ⟨k, rfl⟩ : ∃ m, k = m + 1 := ⟨k - 1, by omega⟩
    simp only [num_Read.l0]
    rw [if_pos (by omega), if_pos (by omega), if_pos (by omega)]
    obtain ⟨x, hx, hdr, hbt⟩ := drop_bl d i (by omega)
    have hmem : x ∈ bl d := List.mem_of_mem_drop (i := i) (by rw [hdr]; simp)
    rw [hbt, wrap_nat i d.size (by omega) hs]
    by_cases h1 : x < 48
    · rw [if_pos (by omega)]
      unfold digitsS
      rw [if_neg (fun h => by have := h x hmem; unfold isD at this; omega)]
    rw [if_neg (by omega)]
    by_cases h2 : x > 57
    · rw [if_pos (by omega)]
      unfold digitsS
      rw [if_neg (fun h => by have := h x hmem; unfold isD at this; omega)]
    rw [if_neg (by omega)]
    refine ih k (i + 1) (by omega) (by omega) fun y hy => ?_
    have ht2 : (bl d).take (i + 1) = (bl d).take i ++ [x] := by
      rw [List.take_add_one]
      congr 1
      have : (bl d)[i]? = ((bl d).drop i)[0]? := by simp
      rw [this, hdr]
      rfl
    rw [ht2] at hy
    simp at hy
    rcases hy with hy | rfl
    · exact ht y hy
    · unfold isD; omega

/-- What is read of a text. -/
def readS (s : ByteArray) : Int × Int :=
  let b := decide ((bl s).head? = some 45)
  let l := if b then (bl s).drop 1 else bl s
  if l = [] ∨ (l.head? = some 48 ∧ (1 < l.length ∨ b = true)) then (0, 4) else digitsS b l

theorem bt0 (s : ByteArray) (h : 0 < s.size) (n : Nat) : (bt s 0 = (n : Int)) ↔ (bl s).head? = some n := by
  obtain ⟨x, hx, hdr, hbt⟩ := drop_bl s 0 h
  rw [show ((0 : Nat) : Int) = 0 from rfl] at hbt
  rw [hbt]
  simp at hdr
  rw [hdr]
  simp
  omega

theorem j1_eq (b : Bool) (d : ByteArray) (hs : d.size ≤ 140737488351232) (k : Nat) (hk : 2 * d.size + 5 < k) :
    num_Read.j1 k b d = some (if bl d = [] ∨ ((bl d).head? = some 48 ∧ (1 < (bl d).length ∨ b = true)) then (0, 4) else digitsS b (bl d)) := by
  have hl := bl_length d
  obtain ⟨k, rfl⟩ : ∃ m, k = m + 1 + 1 := ⟨k - 2, by omega⟩
  simp only [num_Read.j1]
  by_cases h0 : d.size = 0
  · rw [if_pos (by omega)]
    simp only [num_Read.j2]
    rw [if_pos trivial, if_pos (Or.inl (List.eq_nil_of_length_eq_zero (by omega)))]
  rw [if_neg (by omega), if_pos (by omega)]
  have hne : bl d ≠ [] := fun e => by rw [e] at hl; simp at hl; omega
  have h48 := bt0 d (by omega) 48
  rw [show ((48 : Nat) : Int) = 48 from rfl] at h48
  by_cases h1 : (bl d).head? = some 48
  · rw [if_pos (h48.2 h1)]
    by_cases h2 : 1 < d.size
    · rw [if_pos (by omega)]
      simp only [num_Read.j2]
      rw [if_pos trivial, if_pos (Or.inr ⟨h1, Or.inl (by omega)⟩)]
    · rw [if_neg (by omega)]
      simp only [num_Read.j2]
      cases b
      · rw [if_neg (by simp), if_neg (by simp [hne]; omega)]
        exact l0_eq false d hs (Or.inl (by omega)) d.size k 0 (by omega) (by omega) (by simp)
      · rw [if_pos rfl, if_pos (Or.inr ⟨h1, Or.inr rfl⟩)]
  · rw [if_neg (fun h => h1 (h48.1 h))]
    simp only [num_Read.j2]
    rw [if_neg (by simp), if_neg (by simp [hne, h1])]
    exact l0_eq b d hs (Or.inr h1) d.size k 0 (by omega) (by omega) (by simp)

theorem read_eq (s : ByteArray) (hs : s.size ≤ 140737488351232) : num_Read.f (2 * s.size + 10) s = some (readS s) := by
  have hl := bl_length s
  unfold num_Read.f readS
  by_cases h0 : s.size = 0
  · rw [if_neg (by omega)]
    have he : bl s = [] := List.eq_nil_of_length_eq_zero (by omega)
    simp only [num_Read.j0]
    rw [if_neg (by simp), j1_eq false s hs _ (by omega)]
    simp [he]
  rw [if_pos (by omega), if_pos (by omega)]
  have h45 := bt0 s (by omega) 45
  rw [show ((45 : Nat) : Int) = 45 from rfl] at h45
  simp only [num_Read.j0]
  by_cases h : (bl s).head? = some 45
  · rw [if_pos (beq_iff_eq.2 (h45.2 h)), if_pos (by omega), (beq_iff_eq.2 (h45.2 h) : (bt s 0 == 45) = true)]
    have hsz : (s.extract 1 s.size).size = s.size - 1 := by rw [ByteArray.size_extract]; omega
    rw [j1_eq true _ (by omega) _ (by omega), bl_extract]
    simp only [h, decide_true, if_true]
  · have : (bt s 0 == 45) = false := beq_eq_false_iff_ne.2 (fun e => h (h45.1 e))
    rw [this, if_neg (by simp), j1_eq false s hs _ (by omega)]
    simp only [h, decide_false, Bool.false_eq_true, if_false]

/-- Once too great, always too great. -/
theorem val_mul (a : Nat) (l : List Nat) (x : Nat) : step a x ≤ val a (x :: l) := val_ge l (step a x)

theorem refl1_eq (b : Bool) (d : ByteArray) (hs : d.size ≤ 140737488351232) (hd : ∀ x ∈ bl d, isD x) (m : Nat) : ∀ (k i a : Nat), i + m = d.size → m + 2 < k → R64 (if b then -(a : Int) else (a : Int)) →
    rescindref01_Read.l1 k d b (if b then -(a : Int) else (a : Int)) (i : Int) = some (okI (if b then -(val a ((bl d).drop i) : Int) else (val a ((bl d).drop i) : Int))) := by
  induction m with
  | zero =>
    intro k i a hi hk ha
    obtain ⟨k, rfl⟩ : ∃ m, k = m + 1 := ⟨k - 1, by omega⟩
    simp only [rescindref01_Read.l1]
    rw [if_neg (by omega)]
    have : (bl d).drop i = [] := List.drop_eq_nil_of_le (by rw [bl_length]; omega)
    rw [this]
    simp only [val]
    rw [okI_in ha]
  | succ m ih =>
    intro k i a hi hk ha
    obtain ⟨k, rfl⟩ : ∃ m, k = m + 1 := ⟨k - 1, by omega⟩
    obtain ⟨x, hx, hdr, hbt⟩ := drop_bl d i (by omega)
    have hxd : isD x := hd x (List.mem_of_mem_drop (by rw [hdr]; simp))
    unfold isD at hxd
    simp only [rescindref01_Read.l1]
    have hmul := refMul_eq (k - 2) _ 10 ha (by unfold R64; omega)
    rw [show k - 2 + 2 = k by omega] at hmul
    rw [if_pos (by omega), hmul]
    simp only [Option.bind_some]
    have hv := val_mul a ((bl d).drop (i + 1)) x
    rw [step_eq, ← hdr] at hv
    by_cases hm : R64 ((if b then -(a : Int) else (a : Int)) * 10)
    · rw [okI_in hm]
      rw [if_pos rfl, hbt, wrap_nat i d.size (by omega) hs]
      have e : (((x : Int)) - 48) % 256 = (x : Int) - 48 := by omega
      cases b
      · simp only [Bool.false_eq_true, if_false] at *
        rw [if_pos (by omega), e, refAdd_eq _ _ hm (by unfold R64; omega)]
        simp only [Option.bind_some]
        have es : (a : Int) * 10 + ((x : Int) - 48) = ((step a x : Nat) : Int) := by rw [step_eq]; omega
        rw [es]
        by_cases h2 : R64 ((step a x : Nat) : Int)
        · rw [okI_in h2]
          rw [if_pos rfl]
          have := ih k (i + 1) (step a x) (by omega) (by omega) h2
          rw [this, hdr]
          rfl
        · rw [okI_out h2]
          rw [if_neg (by simp), okI_out]
          intro h3
          apply h2
          unfold R64 at *
          rw [step_eq]
          omega
      · simp only [if_true] at *
        rw [if_pos (by omega), e, refSub_eq _ _ hm (by unfold R64; omega)]
        simp only [Option.bind_some]
        have es : -(a : Int) * 10 - ((x : Int) - 48) = -((step a x : Nat) : Int) := by rw [step_eq]; omega
        rw [es]
        by_cases h2 : R64 (-((step a x : Nat) : Int))
        · rw [okI_in h2]
          rw [if_pos rfl]
          have := ih k (i + 1) (step a x) (by omega) (by omega) h2
          rw [this, hdr]
          rfl
        · rw [okI_out h2]
          rw [if_neg (by simp), okI_out]
          intro h3
          apply h2
          unfold R64 at *
          rw [step_eq]
          omega
    · rw [okI_out hm]
      rw [if_neg (by simp), okI_out]
      intro h3
      apply hm
      cases b
      · simp only [Bool.false_eq_true, if_false] at *
        unfold R64 at *
        omega
      · simp only [if_true] at *
        unfold R64 at *
        omega

theorem refl0_eq (b : Bool) (d : ByteArray) (hs : d.size ≤ 140737488351232) (m : Nat) : ∀ (k i : Nat), i + m = d.size → m + d.size + 5 < k → (∀ x ∈ (bl d).take i, isD x) →
    rescindref01_Read.l0 k d b (i : Int) = some (digitsS b (bl d)) := by
  induction m with
  | zero =>
    intro k i hi hk ht
    obtain ⟨k, rfl⟩ : ∃ m, k = m + 1 := ⟨k - 1, by omega⟩
    rw [List.take_of_length_le (by rw [bl_length]; omega)] at ht
    simp only [rescindref01_Read.l0]; unfold digitsS
    rw [if_neg (by omega), if_pos ht]
    have := refl1_eq b d hs ht d.size k 0 0 (by omega) (by omega) (by unfold R64; cases b <;> simp)
    simp only [Int.natCast_zero, Int.neg_zero, ite_self, List.drop_zero] at this
    exact this
  | succ m ih =>
    intro k i hi hk ht
    obtain ⟨k, rfl⟩ : ∃ m, k = m + 1 := ⟨k - 1, by omega⟩
    simp only [rescindref01_Read.l0]
    rw [if_pos (by omega), if_pos (by omega)]
    obtain ⟨x, hx, hdr, hbt⟩ := drop_bl d i (by omega)
    have hmem : x ∈ bl d := List.mem_of_mem_drop (i := i) (by rw [hdr]; simp)
    rw [hbt, wrap_nat i d.size (by omega) hs]
    by_cases h1 : x < 48
    · rw [if_pos (by omega)]
      unfold digitsS
      rw [if_neg (fun h => by have := h x hmem; unfold isD at this; omega)]
    rw [if_neg (by omega)]
    by_cases h2 : x > 57
    · rw [if_pos (by omega)]
      unfold digitsS
      rw [if_neg (fun h => by have := h x hmem; unfold isD at this; omega)]
    rw [if_neg (by omega)]
    refine ih k (i + 1) (by omega) (by omega) fun y hy => ?_
    have ht2 : (bl d).take (i + 1) = (bl d).take i ++ [x] := by
      rw [List.take_add_one]
      congr 1
      have : (bl d)[i]? = ((bl d).drop i)[0]? := by simp
      rw [this, hdr]
      rfl
    rw [ht2] at hy
    simp at hy
    rcases hy with hy | rfl
    · exact ht y hy
    · unfold isD; omega

theorem toList_data (s : ByteArray) : s.toList = s.data.toList := ByteArray.toList_eq s

theorem toList_nil (s : ByteArray) : (s.toList = ([] : List UInt8)) ↔ bl s = [] := by
  rw [toList_data]; unfold bl; simp
theorem toList_48 (s : ByteArray) : (s.toList = ([48] : List UInt8)) ↔ bl s = [48] := by
  rw [toList_data]; unfold bl
  constructor
  · intro h; rw [h]; rfl
  · intro h
    cases hl : s.data.toList with
    | nil => rw [hl] at h; simp at h
    | cons x t =>
      rw [hl] at h
      simp at h
      obtain ⟨h1, h2⟩ := h
      rw [h2]
      congr 1
      exact UInt8.toNat_inj.1 h1

theorem refj1_eq (s : ByteArray) (b : Bool) (d : ByteArray) (hb : b = true → bl s ≠ [48]) (hb2 : b = false → d = s) (hs : d.size ≤ 140737488351232) (k : Nat) (hk : 2 * d.size + 8 < k) :
    rescindref01_Read.j1 k s d b = some (if bl d = [] ∨ ((bl d).head? = some 48 ∧ (1 < (bl d).length ∨ b = true)) then (0, 4) else digitsS b (bl d)) := by
  have hl := bl_length d
  obtain ⟨k, rfl⟩ : ∃ m, k = m + 1 + 1 := ⟨k - 2, by omega⟩
  simp only [rescindref01_Read.j1]
  by_cases h0 : bl d = []
  · rw [if_pos ((toList_nil d).2 h0)]
    simp only [rescindref01_Read.j2]
    rw [if_pos trivial, if_pos (Or.inl h0)]
  rw [if_neg (fun h => h0 ((toList_nil d).1 h))]
  have hpos : 0 < d.size := by
    rcases Nat.eq_zero_or_pos d.size with e | e
    · exact absurd (List.eq_nil_of_length_eq_zero (by omega)) h0
    · exact e
  rw [if_pos (by omega)]
  have h48 := bt0 d hpos 48
  rw [show ((48 : Nat) : Int) = 48 from rfl] at h48
  by_cases h1 : (bl d).head? = some 48
  · rw [if_pos (h48.2 h1)]
    by_cases h2 : 1 < d.size ∨ b = true
    · have hne : bl s ≠ [48] := by
        rcases h2 with h2 | h2
        · cases hbb : b
          · rw [← hb2 hbb]; intro e; rw [e] at hl; simp at hl; omega
          · exact hb hbb
        · exact hb h2
      have : (s.toList != ([48] : List UInt8)) = true := by rw [bne_iff_ne]; exact fun e => hne ((toList_48 s).1 e)
      rw [this]
      simp only [rescindref01_Read.j2]
      rw [if_pos trivial, if_pos (Or.inr ⟨h1, by rw [hl]; exact h2⟩)]
    · have hbf : b = false := by cases b <;> simp_all
      have hds := hb2 hbf
      have : bl s = [48] := by
        rw [← hds]
        cases hbd : bl d with
        | nil => exact absurd hbd h0
        | cons x t =>
          rw [hbd] at h1 hl
          simp at h1 hl
          have : t = [] := List.eq_nil_of_length_eq_zero (by omega)
          rw [h1, this]
      have : (s.toList != ([48] : List UInt8)) = false := by rw [bne_eq_false_iff_eq]; exact (toList_48 s).2 this
      rw [this]
      simp only [rescindref01_Read.j2]
      rw [if_neg (by simp), if_neg (by rw [hl]; simp [h0, h2])]
      exact refl0_eq b d hs d.size k 0 (by omega) (by omega) (by simp)
  · rw [if_neg (fun h => h1 (h48.1 h))]
    simp only [rescindref01_Read.j2]
    rw [if_neg (by simp), if_neg (by simp [h0, h1])]
    exact refl0_eq b d hs d.size k 0 (by omega) (by omega) (by simp)

theorem refRead_eq (s : ByteArray) (hs : s.size ≤ 140737488351232) : rescindref01_Read.f (2 * s.size + 13) s = some (readS s) := by
  have hl := bl_length s
  unfold rescindref01_Read.f readS
  by_cases h0 : s.size = 0
  · rw [if_neg (by omega)]
    have he : bl s = [] := List.eq_nil_of_length_eq_zero (by omega)
    simp only [rescindref01_Read.j0]
    rw [if_neg (by simp), refj1_eq s false s (by simp) (by simp) hs _ (by omega)]
    simp [he]
  rw [if_pos (by omega), if_pos (by omega)]
  have h45 := bt0 s (by omega) 45
  rw [show ((45 : Nat) : Int) = 45 from rfl] at h45
  simp only [rescindref01_Read.j0]
  by_cases h : (bl s).head? = some 45
  · rw [if_pos (beq_iff_eq.2 (h45.2 h)), if_pos (by omega)]
    have hsz : (s.extract 1 s.size).size = s.size - 1 := by rw [ByteArray.size_extract]; omega
    rw [refj1_eq s true _ (fun _ e => by rw [e] at h; simp at h) (by simp) (by omega) _ (by omega), bl_extract]
    simp only [h, decide_true, if_true]
  · have : (bt s 0 == 45) = false := beq_eq_false_iff_ne.2 (fun e => h (h45.1 e))
    rw [this, if_neg (by simp), refj1_eq s false s (by simp) (by simp) hs _ (by omega)]
    simp only [h, decide_false, Bool.false_eq_true, if_false]

theorem bl_show (n : Int) (hn : R64 n) : ∃ l, Good l ∧ l.length ≤ 19 ∧ val 0 l = n.natAbs ∧ bl (showS n) = (if n < 0 then 45 :: l else l) ∧ decF 19 n.natAbs [] = l := by
  unfold R64 at hn
  obtain ⟨l, h1, h2, h3, h4⟩ := dec_good 19 n.natAbs [] (by omega) (by omega)
  rw [List.append_nil] at h1
  refine ⟨l, h3, h2, h4, ?_, h1⟩
  unfold showS showL
  rw [h1]
  have hlt : ∀ d ∈ l, d < 256 := fun d hd => by have := h3.2.1 d hd; unfold isD at this; omega
  by_cases c : n < 0
  · simp only [c, decide_true, if_true]
    exact bl_nums (45 :: l) (fun d hd => by
      simp at hd
      rcases hd with rfl | hd
      · omega
      · exact hlt d hd)
  · simp only [c, decide_false, Bool.false_eq_true, if_false]
    exact bl_nums l hlt

theorem good_head {l : List Nat} (h : Good l) : l.head? ≠ some 45 := fun e => by
  cases l with
  | nil => simp at e
  | cons x t =>
    have := h.2.1 x (by simp)
    unfold isD at this
    simp at e
    omega

theorem read_show (n : Int) (hn : R64 n) : readS (showS n) = (n, 0) := by
  obtain ⟨l, hg, hl, hv, hb, _⟩ := bl_show n hn
  unfold readS
  rw [hb]
  have hok : ∀ b : Bool, (b = true → 0 < n.natAbs) → ¬ (l = [] ∨ (l.head? = some 48 ∧ (1 < l.length ∨ b = true))) := by
    rintro b hb (h | ⟨h, h2⟩)
    · exact hg.1 h
    · have h3 := hg.2.2 h
      rcases h2 with h2 | h2
      · omega
      · have h4 := hb h2
        cases l with
        | nil => simp at h
        | cons x t =>
          simp at h3 h
          subst h h3
          simp only [val, step_eq] at hv
          omega
  by_cases c : n < 0
  · simp only [c, if_true, List.head?_cons, decide_true, List.drop_one, List.tail_cons]
    rw [if_neg (by have := hok true (by omega); simpa using this)]
    unfold digitsS
    rw [if_pos hg.2.1, hv, if_pos rfl, okI_in (by unfold R64 at *; omega)]
    congr 1
    omega
  · simp only [c, if_false, decide_eq_false (good_head hg), Bool.false_eq_true]
    rw [if_neg (by have := hok false (by simp); simpa using this)]
    unfold digitsS
    rw [if_pos hg.2.1, hv, if_neg (by simp), okI_in (by unfold R64 at *; omega)]
    congr 1
    omega

theorem digits_ok {b : Bool} {l : List Nat} {n : Int} (h : digitsS b l = (n, 0)) : (∀ d ∈ l, isD d) ∧ n = (if b then -(val 0 l : Int) else (val 0 l : Int)) ∧ R64 n := by
  unfold digitsS at h
  split at h
  · rename_i hd
    by_cases c : R64 (if b then -(val 0 l : Int) else (val 0 l : Int))
    · rw [okI_in c] at h
      simp at h
      exact ⟨hd, h.symm, by rw [← h]; exact c⟩
    · rw [okI_out c] at h
      simp at h
  · simp at h

theorem show_read (s : ByteArray) (n : Int) (h : readS s = (n, 0)) : R64 n ∧ showS n = s := by
  unfold readS at h
  by_cases c : (bl s).head? = some 45
  · simp only [c, decide_true, if_true] at h
    split at h
    · simp at h
    · rename_i hc
      simp only [not_or, not_and] at hc
      obtain ⟨hd, hn, hr⟩ := digits_ok h
      rw [if_pos rfl] at hn
      refine ⟨hr, bl_inj ?_⟩
      have hg : Good ((bl s).drop 1) := ⟨hc.1, hd, fun e => ((hc.2 e).2 trivial).elim⟩
      obtain ⟨l, hg2, hl2, hv2, hb2, hdec⟩ := bl_show n hr
      have hpos : 0 < val 0 ((bl s).drop 1) := by
        cases hbd : (bl s).drop 1 with
        | nil => exact absurd hbd hc.1
        | cons x t =>
          have hx := hd x (by rw [hbd]; simp)
          have hne : x ≠ 48 := fun e => by
            have := (hc.2 (by rw [hbd, e]; rfl)).2
            simp at this
          unfold isD at hx
          have := val_ge t (step 0 x)
          simp only [val]
          rw [step_eq] at *
          omega
      rw [hb2, if_pos (by omega)]
      have hlen : ((bl s).drop 1).length ≤ 19 := by
        rcases Nat.lt_or_ge 19 ((bl s).drop 1).length with h5 | h5
        · exfalso
          have := good_pos hg (by omega)
          have h6 : 10 ^ 19 ≤ 10 ^ (((bl s).drop 1).length - 1) := Nat.pow_le_pow_right (by omega) (by omega)
          unfold R64 at hr
          omega
        · exact h5
      have hna : n.natAbs = val 0 ((bl s).drop 1) := by omega
      have := dec_back 19 _ [] hg hlen
      rw [← hna, hdec, List.append_nil] at this
      rw [this]
      cases hbs : bl s with
      | nil => rw [hbs] at c; simp at c
      | cons x t =>
        rw [hbs] at c
        simp at c
        rw [c]
        rfl
  · simp only [c, decide_false, Bool.false_eq_true, if_false] at h
    split at h
    · simp at h
    · rename_i hc
      simp only [not_or, not_and] at hc
      obtain ⟨hd, hn, hr⟩ := digits_ok h
      simp only [Bool.false_eq_true, if_false] at hn
      refine ⟨hr, bl_inj ?_⟩
      have hg : Good (bl s) := ⟨hc.1, hd, fun e => by
        have h1 := (hc.2 e).1
        have h2 : 0 < (bl s).length := List.length_pos_iff.2 hc.1
        omega⟩
      obtain ⟨l, hg2, hl2, hv2, hb2, hdec⟩ := bl_show n hr
      rw [hb2, if_neg (by omega)]
      have hlen : (bl s).length ≤ 19 := by
        rcases Nat.lt_or_ge 19 (bl s).length with h5 | h5
        · exfalso
          have := good_pos hg (by omega)
          have h6 : 10 ^ 19 ≤ 10 ^ ((bl s).length - 1) := Nat.pow_le_pow_right (by omega) (by omega)
          unfold R64 at hr
          omega
        · exact h5
      have hna : n.natAbs = val 0 (bl s) := by omega
      have := dec_back 19 _ [] hg hlen
      rw [← hna, hdec, List.append_nil] at this
      rw [this]

/-! The reference's Show. -/
theorem str_cons (x : Int) (l : List Nat) : strOfNums [x] ++ strOfNums (l.map fun d : Nat => (d : Int)) = strOfNums (x :: l.map fun d : Nat => (d : Int)) := by
  unfold strOfNums
  apply ByteArray.ext
  simp

theorem quo10 (x : Nat) (h : x < 10000000000000000000) : wrap64 (Int.tdiv (x : Int) 10) = ((x / 10 : Nat) : Int) := by
  rw [Int.tdiv_eq_ediv_of_nonneg (by omega)]
  unfold wrap64
  omega
theorem rem10 (x : Nat) : wrap64 (48 + Int.tmod (x : Int) 10) % 256 = ((48 + x % 10 : Nat) : Int) := by
  rw [Int.tmod_eq_emod_of_nonneg (by omega)]
  unfold wrap64
  omega

theorem refl0Show_eq (f : Nat) : ∀ (k x : Nat) (acc : List Nat), x < 10 ^ (f + 1) → f ≤ 18 → f < k → acc.length + f ≤ 100 →
    rescindref01_Show.l0 k (x : Int) (strOfNums (((48 + x % 10) :: acc).map fun d : Nat => (d : Int))) = some (strOfNums ((decF (f + 1) x acc).map fun d : Nat => (d : Int))) := by
  induction f with
  | zero =>
    intro k x acc hx _ hk _
    obtain ⟨k, rfl⟩ : ∃ m, k = m + 1 := ⟨k - 1, by omega⟩
    simp only [rescindref01_Show.l0]
    simp at hx
    rw [if_neg (by omega)]
    simp only [decF]
    rw [if_pos (by omega)]
  | succ f ih =>
    intro k x acc hx hf hk ha
    obtain ⟨k, rfl⟩ : ∃ m, k = m + 1 := ⟨k - 1, by omega⟩
    simp only [rescindref01_Show.l0]
    rw [decF]
    by_cases h : x / 10 = 0
    · rw [if_neg (by omega), if_pos h]
    · rw [if_pos (by omega), if_neg h]
      simp only [Option.bind_some]
      have hp : 10 ^ (f + 1 + 1) ≤ 10 ^ 19 := Nat.pow_le_pow_right (by omega) (by omega)
      have hx9 : x < 10000000000000000000 := Nat.lt_of_lt_of_le hx hp
      have e1 := quo10 x hx9
      have e2 := rem10 (x / 10)
      rw [e1, e2, if_pos (by rw [strOfNums_size, strOfNums_size]; simp; omega), str_cons]
      exact ih k (x / 10) ((48 + x % 10) :: acc) (by rw [Nat.pow_succ] at hx; omega) (by omega) (by omega) (by simp; omega)

theorem refShowPos (k : Nat) (hk : 20 ≤ k) (n : Nat) (hn : n < 9223372036854775808) : rescindref01_Show.f (k + 1) (n : Int) = some (strOfNums ((decF 19 n []).map fun d : Nat => (d : Int))) := by
  simp only [rescindref01_Show.f]
  rw [if_neg (by omega), if_neg (by omega)]
  rw [rem10 n]
  have := refl0Show_eq 18 k n [] (by omega) (by omega) (by omega) (by simp)
  simpa using this

theorem refShow_eq (n : Int) (hn : R64 n) : rescindref01_Show.f 25 n = some (showS n) := by
  unfold R64 at hn
  by_cases c0 : n = -9223372036854775808
  · subst c0
    simp only [rescindref01_Show.f]
    rw [if_pos trivial]
    congr 1
  by_cases c : n < 0
  · simp only [rescindref01_Show.f]
    rw [if_neg c0, if_pos c]
    have e : wrap64 (-n) = ((n.natAbs : Nat) : Int) := by unfold wrap64; omega
    have hp := refShowPos 23 (by omega) n.natAbs (by omega)
    simp only [rescindref01_Show.f] at hp
    rw [e, hp]
    simp only [Option.bind_some]
    obtain ⟨l, hg, hl, hv, hb, hdec⟩ := bl_show n hn
    rw [hdec, if_pos (by rw [strOfNums_size]; simp; omega)]
    unfold showS showL
    rw [hdec]
    simp only [c, decide_true, if_true, List.map_cons]
    congr 1
  · obtain ⟨m, rfl⟩ : ∃ m : Nat, n = m := ⟨n.toNat, by omega⟩
    rw [refShowPos 24 (by omega) m (by omega)]
    unfold showS showL
    simp [c]

end Go.Proofs.YtdnlcbkocnionaaRRR.NumP
