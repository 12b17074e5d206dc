/- The walks of NumReads and NumShows. -/
import Derived.Test.YtdnlcbkocnionaaRRRNumRead
import Derived.Test.YtdnlcbkocnionaaRRRNumAddsW
namespace Go.Proofs.YtdnlcbkocnionaaRRR.NumW
open Go.RowKit Go.Proofs.YtdnlcbkocnionaaRRRW.PrintWords Go.Proofs.YtdnlcbkocnionaaRRRW.PrintLast Go.Proofs.YtdnlcbkocnionaaRRRW.PrintMore
open Go.Proofs.YtdnlcbkocnionaaRRR.PNum Go.Proofs.YtdnlcbkocnionaaRRR.NumP

theorem readS_cases (s : ByteArray) : (∃ n, readS s = (n, 0)) ∨ (∃ e, readS s = (0, e) ∧ e ≠ 0) := by
  have hd : ∀ b l, (∃ n, digitsS b l = (n, 0)) ∨ (∃ e, digitsS b l = (0, e) ∧ e ≠ 0) := by
    intro b l
    unfold digitsS
    split
    · generalize (if b = true then -(val 0 l : Int) else (val 0 l : Int)) = v
      by_cases c : R64 v
      · exact .inl ⟨v, okI_in c⟩
      · exact .inr ⟨10, okI_out c, by decide⟩
    · exact .inr ⟨4, rfl, by decide⟩
  unfold readS
  dsimp only
  generalize (if decide ((bl s).head? = some 45) = true then (bl s).drop 1 else bl s) = l
  generalize decide ((bl s).head? = some 45) = b
  split
  · exact .inr ⟨4, rfl, by decide⟩
  · exact hd b l

theorem bel2 {a b c : World} (h : Below a.heap.size a b) (k : Below b.heap.size b c) : Below a.heap.size a c := h.trans (k.mono h.size)

set_option maxHeartbeats 400000 in
theorem numReads_walk (s : ByteArray) (hs : s.size ≤ 140737488351232) (w : World) :
    Calls Try.prog 8 #[.string s] w fun e w' => e = .returned (.bool true) ∧ Below w.heap.size w w' := by
  rcases readS_cases s with ⟨n, hn⟩ | ⟨x, hx, hx0⟩
  · have C1 := Lib.hid fun w => num_Read.calls _ s n 0 w (by rw [read_eq s hs, hn])
    have C2 := Lib.hid fun w => rescindref01_Read.calls _ s n 0 w (by rw [refRead_eq s hs, hn])
    obtain ⟨hr, hsh⟩ := show_read s n hn
    have C3 := Lib.hid (show_calls n hr)
    rw [hsh] at C3
    clear hr hsh hn
    go_enter Try.func8, Try.ntmps8
    go_wp2_with (first
      | (go_at_call 29; ((with_reducible refine (C1.out _).mono ?_); rintro e w' ⟨rfl, ⟨n1, rfl⟩⟩))
      | (go_at_call 30; ((with_reducible refine (C2.out _).mono ?_); rintro e w' ⟨rfl, ⟨n2, rfl⟩⟩))
      | (go_at_call 31; ((with_reducible refine (C3.out _).mono ?_); rintro e w' ⟨rfl, hb⟩))
      | (go_at_call 18; ((with_reducible refine (live_calls _).mono ?_); rintro e w' ⟨rfl, hl⟩)))
    all_goals (go_ret; exact ⟨rfl, (cl _ hl).trans (hb.mono (cl _ hl).size)⟩)
  · have C1 := Lib.hid fun w => num_Read.calls _ s 0 x w (by rw [read_eq s hs, hx])
    have C2 := Lib.hid fun w => rescindref01_Read.calls _ s 0 x w (by rw [refRead_eq s hs, hx])
    have hb0 : (x == 0) = false := beq_eq_false_iff_ne.2 hx0
    have hb1 : (x != 0) = true := by rw [bne_iff_ne]; exact hx0
    clear hx hx0
    go_enter Try.func8, Try.ntmps8
    go_wp2_with (first
      | (go_at_call 29; ((with_reducible refine (C1.out _).mono ?_); rintro e w' ⟨rfl, ⟨n1, rfl⟩⟩))
      | (go_at_call 30; ((with_reducible refine (C2.out _).mono ?_); rintro e w' ⟨rfl, ⟨n2, rfl⟩⟩))
      | (go_at_call 18; ((with_reducible refine (live_calls _).mono ?_); rintro e w' ⟨rfl, hl⟩)))
    all_goals (go_ret; exact ⟨rfl, cl _ hl⟩)

set_option maxHeartbeats 400000 in
theorem numShows_walk (n : Int) (hn : R64 n) (w : World) :
    Calls Try.prog 9 #[.int .i64 n] w fun e w' => e = .returned (.bool true) ∧ Below w.heap.size w w' := by
  have hsz : (showS n).size ≤ 140737488351232 := by
    obtain ⟨l, hg, hl, hv, hb, _⟩ := bl_show n hn
    have := congrArg List.length hb
    rw [bl_length] at this
    split at this <;> (try simp at this) <;> omega
  have C1 := Lib.hid (show_calls n hn)
  have C2 := Lib.hid fun w => num_Read.calls _ (showS n) n 0 w (by rw [read_eq _ hsz, read_show n hn])
  have C3 := Lib.hid fun w => rescindref01_Show.calls 25 n (showS n) w (refShow_eq n hn)
  clear hsz hn
  generalize showS n = t at *
  go_enter Try.func9, Try.ntmps9
  go_wp2_with (first
    | (go_at_call 29; ((with_reducible refine (C2.out _).mono ?_); rintro e w' ⟨rfl, ⟨n1, rfl⟩⟩))
    | (go_at_call 32; ((with_reducible refine (C3.out _).mono ?_); rintro e w2 ⟨rfl, hb2⟩))
    | (go_at_call 31; ((with_reducible refine (C1.out _).mono ?_); rintro e w1 ⟨rfl, hb1⟩))
    | (go_at_call 18; ((with_reducible refine (live_calls _).mono ?_); rintro e w' ⟨rfl, hl⟩)))
  rename_i v1 hv1
  go_ret
  exact ⟨rfl, bel2 hv1 (bel2 (cl _ hl) (bel2 hb1 hb2))⟩
end Go.Proofs.YtdnlcbkocnionaaRRR.NumW
