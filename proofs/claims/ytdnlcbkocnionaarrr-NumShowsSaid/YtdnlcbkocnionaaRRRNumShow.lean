import Derived.Test.YtdnlcbkocnionaaRRRPNumx0
import Derived.Test.YtdnlcbkocnionaaRRRPNumx
import Derived.Lib.Hide
import Derived.Laws.NewBlocks
namespace Go.Proofs.YtdnlcbkocnionaaRRR.NumW
open Go.RowKit Go.Proofs.YtdnlcbkocnionaaRRRW.PrintWords Go.Proofs.YtdnlcbkocnionaaRRRW.PrintLast Go.Proofs.YtdnlcbkocnionaaRRRW.PrintMore
open Go.Proofs.YtdnlcbkocnionaaRRR.PNum

def decF : Nat → Nat → List Nat → List Nat
  | 0, _, acc => acc
  | f + 1, x, acc => if x / 10 = 0 then (48 + x % 10) :: acc else decF f (x / 10) ((48 + x % 10) :: acc)

def roomL (j : Nat) (ds : List Nat) : List Value := List.replicate j (Value.int .u8 0) ++ ds.map (fun d : Nat => Value.int .u8 (d : Int))

theorem room_set (m : Nat) (ds : List Nat) (d : Nat) : (roomL (m + 1) ds).toArray.setIfInBounds m (Value.int .u8 (d : Int)) = (roomL m (d :: ds)).toArray := by
  unfold roomL
  simp [List.replicate_succ']

theorem room_get (m : Nat) (ds : List Nat) : (roomL (m + 1) ds).toArray[m]? = some (Value.int .u8 0) := by
  unfold roomL
  simp [List.getElem?_append]

def showL (b : Bool) (ds : List Nat) : List Int := (if b then 45 :: ds else ds).map fun d : Nat => (d : Int)

theorem reads_room (w : World) (j : Nat) (ds : List Nat) (n : Nat) (hn : ds.length = n) (hb : n ≤ 100) :
    ReadsInt (w.alloc (Obj.cells (roomL j ds).toArray 75)) .u8 (some { block := w.heap.size, off := j }) n (ds.map fun d : Nat => (d : Int)) := by
  subst hn
  refine ⟨by simp, by omega, fun h => ⟨_, rfl, fun i hi => ?_⟩⟩
  have : (w.alloc (Obj.cells (roomL j ds).toArray 75)).cell? ⟨w.heap.size, j + i, none⟩ = (roomL j ds).toArray[j + i]? := World.cell?_alloc_new w _ 75 _
  have e : (⟨w.heap.size, j, none⟩ : Addr).add i = ⟨w.heap.size, j + i, none⟩ := by
    unfold Addr.add
    split
    · subst_vars; rfl
    · rfl
  rw [e, this]
  simp [roomL, hi]

theorem slice20 (b m : Nat) (hm : m < 20) (w : World) : (Instr.sliceAt 75 (.pointer (some ⟨b, 0, none⟩)) (some (.int .i64 (m : Int))) none none).run Try.prog w = .ok (.slice (some ⟨b, m, none⟩) (20 - m) (20 - m)) w := by
  have ha : Try.prog.arrayLen 75 = 20 := by kernel_rfl
  rw [run_sliceAt_array_l w 75 _ (by rw [Try.underlying75]; kernel_rfl) .i64 m (by omega) (by rw [ha]; omega), ha]
  have hs : ((sizeOf (Try.prog.elem 75)).run Try.prog w) = .ok 1 w := by kernel_rfl
  rw [hs]
  show Result.ok (slicedAt _ _ _ _ _) _ = _
  unfold slicedAt
  rw [if_neg (by omega)]
  unfold Addr.add
  split
  · rename_i h
    obtain rfl : m = 0 := by simpa using h
    rfl
  · simp

set_option maxHeartbeats 400000 in
set_option maxRecDepth 100000 in
theorem show_any (n : Int) (x : Nat) (b : Bool) (w : World) (hx : num_size.f n = some ((x : Int), b)) (hlt : x < 10 ^ 19) :
    Calls Try.prog 31 #[.int .i64 n] w fun e w' => e = .returned (.string (strOfNums (showL b (decF 19 x [])))) ∧ Below w.heap.size w w' := by
  have H := Lib.hid hx; clear hx
  go_enter Try.func31, Try.ntmps31
  go_wp2_with (go_at_call 38; refine (num_size.calls _ _ _ _ H.out).mono ?_; rintro e w' ⟨rfl, ⟨nd, rfl⟩⟩)
  clear H
  obtain ⟨wd, hwd⟩ : ∃ wd, wd = w.drewN nd := ⟨_, rfl⟩
  have hsz : wd.heap.size = w.heap.size := by rw [hwd]; simp
  have HB : Hid (Below w.heap.size w wd) := by rw [hwd]; exact pw_below_drewN (Below.refl _ _) nd
  rw [← hwd, ← hsz]
  clear hwd hsz
  go_loopw [3, 6] (fun v3 v6 wr => ∃ (j y : Nat) (ds : List Nat), 2 ≤ j ∧ j ≤ 20 ∧ v6 = .int .i64 (j : Int) ∧ v3 = .int .u64 (y : Int) ∧ wr = wd.alloc (.cells (roomL j ds).toArray 75) ∧ y < 10 ^ (j - 1) ∧ decF (j - 1) y ds = decF 19 x [] ∧ ds.length + j = 20)
    (fun v3 v6 wr => (intOf v6).toNat)
  case atStart => exact ⟨20, x, [], by omega, by omega, rfl, rfl, by kernel_rfl, hlt, rfl, rfl⟩
  case round =>
    clear hlt
    obtain ⟨j, y, ds, hj1, hj2, rfl, rfl, rfl, hy, hd, hl⟩ := hrel
    have HD := Lib.hid hd; clear hd
    obtain ⟨m, rfl⟩ : ∃ m, j = m + 1 + 1 := ⟨j - 2, by omega⟩
    have HY := Lib.hid hy; clear hy
    have HL := Lib.hid hl; clear hl
    have hyb : y ≤ 10000000000000000000 := by
      have h1 := HY.out
      have h2 : 10 ^ (m + 1 + 1 - 1) ≤ 10 ^ 19 := Nat.pow_le_pow_right (by omega) (by omega)
      omega
    have hc : ∀ c i, (wd.alloc (Obj.cells c 75)).cell? { block := wd.heap.size, off := i } = c[i]? := fun c i => World.cell?_alloc_new _ _ _ _
    have hf : ∀ c i, (wd.alloc (Obj.cells c 75)).frozen? { block := wd.heap.size, off := i } = false := fun c i => World.frozen?_alloc_new _ _ _ _
    have hs : ∀ c i v, (wd.alloc (Obj.cells c 75)).setCell { block := wd.heap.size, off := i } v = wd.alloc (Obj.cells (c.setIfInBounds i v) 75) := fun c i v => World.setCell_alloc_at _ _ _ _ _ rfl
    have hg1 := room_get (m + 1) ds
    have hg2 := room_get m ((48 + y % 10) :: ds)
    have hs1 : (roomL (m + 1 + 1) ds).toArray.setIfInBounds (m + 1) (Value.int .u8 (48 + (y : Int) % 10)) = (roomL (m + 1) ((48 + y % 10) :: ds)).toArray := by
      have := room_set (m + 1) ds (48 + y % 10); rw [← this]; simp
    have hs2 : (roomL (m + 1) ((48 + y % 10) :: ds)).toArray.setIfInBounds m (Value.int .u8 45) = (roomL m (45 :: (48 + y % 10) :: ds)).toArray := room_set m _ 45
    have hsl1 := slice20 wd.heap.size (m + 1) (by omega)
    have hsl2 := slice20 wd.heap.size m (by omega)
    rw [Int.natCast_add, Int.natCast_one, show 20 - (m + 1) = 19 - m from by omega] at hsl1
    have hr1 := string_of_reads (P := Try.prog) (src := 76) (dst := 9) (c := 19 - m) Try.underlying76 Try.underlying5 Try.underlying9 (reads_room wd (m + 1) ((48 + y % 10) :: ds) (19 - m) (by have := HL.out; simp; omega) (by omega))
    have hr2 := string_of_reads (P := Try.prog) (src := 76) (dst := 9) (c := 20 - m) Try.underlying76 Try.underlying5 Try.underlying9 (reads_room wd m (45 :: (48 + y % 10) :: ds) (20 - m) (by have := HL.out; simp; omega) (by omega))
    go_wp2
    · rename_i hz hb
      subst hb
      go_ret
      refine ⟨congrArg (fun l => Ending.returned (.string (strOfNums l))) ?_, HB.out.alloc (by simpa using HB.out.size) _⟩
      rw [← HD.out]
      have hz' : y / 10 = 0 := by have := of_decide_eq_true hz; omega
      simp [showL, decF, hz']
    · rename_i hz hb
      subst hb
      go_ret
      refine ⟨congrArg (fun l => Ending.returned (.string (strOfNums l))) ?_, HB.out.alloc (by simpa using HB.out.size) _⟩
      rw [← HD.out]
      have hz' : y / 10 = 0 := by have := of_decide_eq_true hz; omega
      simp [showL, decF, hz']
    · rename_i hz
      have hz' : ¬ y / 10 = 0 := by have := of_decide_eq_false hz; omega
      have hm : m ≠ 0 := by
        rintro rfl
        have := HY.out
        simp at this
        omega
      refine ⟨⟨m + 1, y / 10, (48 + y % 10) :: ds, by omega, by omega, by simp, by simp, rfl, ?_, ?_, by have := HL.out; simp; omega⟩, ?_⟩
      · have := HY.out
        simp only [Nat.add_sub_cancel, Nat.pow_succ] at this ⊢
        obtain ⟨q, rfl⟩ : ∃ q, m = q + 1 := ⟨m - 1, by omega⟩
        simp only [Nat.pow_succ] at this ⊢
        omega
      · rw [← HD.out]
        simp [decF, hz']
      · simp [intOf]
        omega
end Go.Proofs.YtdnlcbkocnionaaRRR.NumW
