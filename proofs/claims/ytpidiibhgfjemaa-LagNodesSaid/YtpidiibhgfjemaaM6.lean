/- Texts of this claim, put together by a program: LgSp, LgF. -/
import Derived.Test.YtpidiibhgfjemaaM5
section
namespace Go.Proofs.Ytpidiibhgfjemaa.PLh
open Go.Proofs.Ytpidiibhgfjemaa.PLg
open Go.RowKit Go.Proofs.YtpidiibhgfjemaaW.PrintWords Go.Proofs.YtpidiibhgfjemaaW.PrintLast Go.Proofs.YtpidiibhgfjemaaW.PrintMore
set_option linter.unusedVariables false
set_option linter.unusedSimpArgs false
attribute [local go_sem] max2_int min2_int max_two min_two max_three min_three max_four min_four
attribute [local go_sem high] eqA34
theorem guard3 {P : Program} {ops : Array Oper} {Q : Exit → Act → World → Prop} {rest : List Oper} {a : Act} {w : World} {o4 o5 o6 : Oper} {k : Nat} (b t : Bool) (addr : Value)
  (g4 : o4.guard = some (k, true)) (g5 : o5.guard = some (k, true)) (g6 : o6.guard = none)
  (h4 : yielded ops a.tmps k = some b) (h5 : ∀ x, yielded ops (a.put o4.dst x).tmps k = some b)
  (r4 : (execOp a.eval o4).run P w = .ok (.value addr) w)
  (r5 : (execOp (a.put o4.dst addr).eval o5).run P w = .ok (.value (.bool t)) w)
  (r6 : b = true → (execOp ((a.put o4.dst addr).put o5.dst (.bool t)).eval o6).run P w = .ok (.value (.bool t)) w)
  (r7 : b = false → (execOp ((a.put o4.dst undef).put o5.dst undef).eval o6).run P w = .ok (.value (.bool false)) w)
  (h : ∀ x y, wpList P ops Q rest (((a.put o4.dst x).put o5.dst y).put o6.dst (.bool (b && t))) w) : wpList P ops Q (o4 :: o5 :: o6 :: rest) a w := by
 cases b
 ·refine wpList_skip (by simp [Region.wanted, g4, h4]) ?_
  refine wpList_skip (by simp [Region.wanted, g5, h5]) ?_
  refine wpList_plain g6 fun K hK => ?_
  unfold Oper.wp
  rw [r7 rfl]
  exact hK _ _ (h _ _)
 ·refine BigFrame.wpList_want (by simp [Region.wanted, g4, h4]) fun K hK => ?_
  unfold Oper.wp
  rw [r4]
  refine hK _ _ ?_
  refine BigFrame.wpList_want (by simp [Region.wanted, g5, h5]) fun K hK => ?_
  unfold Oper.wp
  rw [r5]
  refine hK _ _ ?_
  refine wpList_plain g6 fun K hK => ?_
  unfold Oper.wp
  rw [r6 rfl]
  have := h addr (.bool t)
  rw [Bool.true_and] at this
  exact hK _ _ this
theorem eqA54 (d : Nat) (w : World) (x0 y0 : Bool) (x1 y1 : Bool) (x2 y2 : Bool) (x3 y3 : Bool) (x4 y4 : Bool) (x5 y5 : Bool) (x6 y6 : Bool) (x7 y7 : Bool) :
  (Op.equalIn (d + 2) 54 (.agg #[.bool x0, .bool x1, .bool x2, .bool x3, .bool x4, .bool x5, .bool x6, .bool x7]) (.agg #[.bool y0, .bool y1, .bool y2, .bool y3, .bool y4, .bool y5, .bool y6, .bool y7])).run Try.prog w = .ok (x0 == y0 && (x1 == y1 && (x2 == y2 && (x3 == y3 && (x4 == y4 && (x5 == y5 && (x6 == y6 && (x7 == y7)))))))) w := by
 refine eqA_of Try.underlying54 (by kernel_rfl) ?_
 refine eqf_cons (by rfl) (by go_simp; rfl) (by go_simp; rfl) (by go_simp) ?_
 refine eqf_cons (by rfl) (by go_simp; rfl) (by go_simp; rfl) (by go_simp) ?_
 refine eqf_cons (by rfl) (by go_simp; rfl) (by go_simp; rfl) (by go_simp) ?_
 refine eqf_cons (by rfl) (by go_simp; rfl) (by go_simp; rfl) (by go_simp) ?_
 refine eqf_cons (by rfl) (by go_simp; rfl) (by go_simp; rfl) (by go_simp) ?_
 refine eqf_cons (by rfl) (by go_simp; rfl) (by go_simp; rfl) (by go_simp) ?_
 refine eqf_cons (by rfl) (by go_simp; rfl) (by go_simp; rfl) (by go_simp) ?_
 exact eqf_last (by rfl) (by go_simp; rfl) (by go_simp; rfl) (by go_simp)
attribute [local go_sem high] eqA54
theorem spare_id (b0 b1 b2 b3 b4 b5 b6 b7 t0 t1 t2 t3 t4 t5 t6 t7 : Bool) : ((!(b0 == (b0 && t0))) || ((!(b1 == (b1 && t1))) || ((!(b2 == (b2 && t2))) || ((!(b3 == (b3 && t3))) || ((!(b4 == (b4 && t4))) || ((!(b5 == (b5 && t5))) || ((!(b6 == (b6 && t6))) || (!(b7 == (b7 && t7)))))))))) = spareB [b0, b1, b2, b3, b4, b5, b6, b7] [t0, t1, t2, t3, t4, t5, t6, t7] := by
 have e : ∀ b t : Bool, (!(b == (b && t))) = (b && !t) := by decide
 simp only [e, spareB, List.zip_cons_cons, List.zip_nil_left, List.any_cons, List.any_nil, Bool.or_false]
set_option maxHeartbeats 40000000 in
set_option maxRecDepth 100000 in
theorem spare_walk (k : Nat) (a0_0 : Int) (a0_1 : Int) (a0_2 : Int) (A0_3 : Option Addr) (c0_3 : Nat) (l0_3 : List (List (S79))) (A0_4 : Option Addr) (c0_4 : Nat) (l0_4 : List ByteArray) (A0_5 : Option Addr) (c0_5 : Nat) (l0_5 : List Int) (A0_6 : Option Addr) (c0_6 : Nat) (l0_6 : List (S43)) (a0_7 : Int) (a0_8 : Int) (a0_9 : Int) (a0_10 : Int) (a0_11 : Int) (t103 t104 t105 t106 t107 t108 t109 t110 : Bool) (w : World) (hr0_3 : Kd.C (Kd.slice 79 k79) w A0_3 l0_3.length l0_3) (hc0_3 : l0_3.length ≤ c0_3) (hr0_4 : Kd.C Kd.string w A0_4 l0_4.length l0_4) (hc0_4 : l0_4.length ≤ c0_4) (hr0_5 : Kd.C (Kd.int .i64) w A0_5 l0_5.length l0_5) (hc0_5 : l0_5.length ≤ c0_5) (hr0_6 : Kd.C k43 w A0_6 l0_6.length l0_6) (hc0_6 : l0_6.length ≤ c0_6) (h : plan_fields.f k a0_0 = some (t103, t104, t105, t106, t107, t108, t109, t110)) :
  Calls Try.prog 24 #[.agg #[.int .i64 a0_0, .int .i64 a0_1, .int .i64 a0_2, .slice A0_3 l0_3.length c0_3, .slice A0_4 l0_4.length c0_4, .slice A0_5 l0_5.length c0_5, .slice A0_6 l0_6.length c0_6, .int .i64 a0_7, .int .i64 a0_8, .int .i64 a0_9, .int .i64 a0_10, .int .i64 a0_11]] w fun e w' => e = .returned (.bool (spareB [(a0_2 != 0), (decide (0 < l0_3.length)), (decide (0 < l0_4.length)), (decide (0 < l0_5.length)), (decide (0 < l0_6.length)), (!a0_7 == 0 || (!a0_8 == 0 || !a0_9 == 0)), (a0_10 != 0), (a0_11 != 0)] [t103, t104, t105, t106, t107, t108, t109, t110])) ∧ Below w.heap.size w w' := by
 have hu40 := Try.underlying40
 have hu34 := Try.underlying34
 have hu54 := Try.underlying54
 have HR0_3 := Aside0.mk hr0_3
 have HC0_3 := Aside0.mk hc0_3
 clear hr0_3 hc0_3
 have HR0_4 := Aside0.mk hr0_4
 have HC0_4 := Aside0.mk hc0_4
 clear hr0_4 hc0_4
 have HR0_5 := Aside0.mk hr0_5
 have HC0_5 := Aside0.mk hc0_5
 clear hr0_5 hc0_5
 have HR0_6 := Aside0.mk hr0_6
 have HC0_6 := Aside0.mk hc0_6
 clear hr0_6 hc0_6
 have HB := Aside0.mk (Below.refl w.heap.size w)
 have A2 := Aside0.mk h
 clear h
 go_enter Try.func24, Try.ntmps24
 try go_wp2_with (first | ((with_reducible refine gate_dst (N := 1) rfl ?_); refine box_event ?hg (N := 1) ?hd (cs := #[.int .i64 a0_0, .int .i64 a0_1, .int .i64 a0_2, .slice A0_3 l0_3.length c0_3, .slice A0_4 l0_4.length c0_4, .slice A0_5 l0_5.length c0_5, .slice A0_6 l0_6.length c0_6, .int .i64 a0_7, .int .i64 a0_8, .int .i64 a0_9, .int .i64 a0_10, .int .i64 a0_11]) (t := 40) ?hr ?_; (case hd => rfl); (case hg => rfl); (case hr => first | (go_simp; done) | (go_simp; rfl)); intro gb101 hg w3 hbox hb; have n0_ := Aside0.mk (below_step (by repeat (first | (with_reducible first | exact HB.out | apply below_alloc | apply pw_below_drewN | apply below_drew1) | exact HB.out)) hb); have n1_ := Aside0.mk (hbox); have n2_ := Aside0.mk ((by rw [hg]; exact (below_size (by repeat (first | (with_reducible first | exact HB.out | apply below_alloc | apply pw_below_drewN | apply below_drew1) | exact HB.out))) : w.heap.size ≤ gb101)); have n3_ := Aside0.mk ((by rw [hg]; exact (below_size (by repeat (first | (with_reducible first | exact HB.out | apply below_alloc | apply pw_below_drewN | apply below_drew1) | exact HB.out))) : w.heap.size ≤ gb101)); clear HB; have HB := n0_; have BK101 := n1_; have GW101 := n2_; have GE101 := n3_; clear n0_ n1_ n2_ n3_; clear hb hbox hg))
 have n0_ := Aside0.mk (blk_drew BK101.out)
 have n1_ := Aside0.mk (below_drew1 HB.out)
 clear BK101
 clear HB
 have BK101 := n0_
 have HB := n1_
 clear n0_ n1_
 refine start_ (n := 32) (S := fun w' => w'.cell? ⟨gb101, 0, none⟩ = some (.int .i64 a0_0) ∧ w'.cell? ⟨gb101, 1, none⟩ = some (.int .i64 a0_1) ∧ w'.cell? ⟨gb101, 2, none⟩ = some (.int .i64 a0_2) ∧ w'.cell? ⟨gb101, 3, none⟩ = some (.slice A0_3 l0_3.length c0_3) ∧ w'.cell? ⟨gb101, 4, none⟩ = some (.slice A0_4 l0_4.length c0_4) ∧ w'.cell? ⟨gb101, 5, none⟩ = some (.slice A0_5 l0_5.length c0_5) ∧ w'.cell? ⟨gb101, 6, none⟩ = some (.slice A0_6 l0_6.length c0_6) ∧ w'.cell? ⟨gb101, 7, none⟩ = some (.int .i64 a0_7) ∧ w'.cell? ⟨gb101, 8, none⟩ = some (.int .i64 a0_8) ∧ w'.cell? ⟨gb101, 9, none⟩ = some (.int .i64 a0_9) ∧ w'.cell? ⟨gb101, 10, none⟩ = some (.int .i64 a0_10) ∧ w'.cell? ⟨gb101, 11, none⟩ = some (.int .i64 a0_11)) (ds := []) #[false, false, false, false, false, false, false, false, false, false, false, false, false, false, false, false, false, false, false, false, false, false, false, false, false, false, false, false, false, false, false, false] (by kernel_rfl) rfl rfl ⟨(blk_cell BK101.out 0).trans rfl, (blk_cell BK101.out 1).trans rfl, (blk_cell BK101.out 2).trans rfl, (blk_cell BK101.out 3).trans rfl, (blk_cell BK101.out 4).trans rfl, (blk_cell BK101.out 5).trans rfl, (blk_cell BK101.out 6).trans rfl, (blk_cell BK101.out 7).trans rfl, (blk_cell BK101.out 8).trans rfl, (blk_cell BK101.out 9).trans rfl, (blk_cell BK101.out 10).trans rfl, (blk_cell BK101.out 11).trans rfl⟩ (fun hHeld => ?_); refine with_tabW plan_spare.tab1 plan_spare.bits1 (fun HT_ HW_ => ?_)
 generalize w3.drew = w4 at BK101 HB hHeld ⊢
 refine pure_ (i := 0) (N := some 6) (v := ?_) (a' := ?_) #[true, false, false, false, false, false, false, false, false, false, false, false, false, false, false, false, false, false, false, false, false, false, false, false, false, false, false, false, false, false, false, false] rfl rfl (any_of HT_.out (by kernel_rfl)) (fun _ _ _ h => h) (Or.inl ⟨by rfl, ?_⟩) ?_ ?_
 rotate_left
 ·intro w'
  go_simp
  with_reducible rfl
 rotate_left
 ·simp only [Act.put, List.setIfInBounds_toArray, List.set_cons_zero, List.set_cons_succ, i64_w, i32_w]
  rfl
 refine pure_ (i := 3) (N := some 9) (v := ?_) (a' := ?_) #[true, false, false, true, false, false, false, false, false, false, false, false, false, false, false, false, false, false, false, false, false, false, false, false, false, false, false, false, false, false, false, false] rfl rfl (any_of HT_.out (by kernel_rfl)) (fun _ _ _ h => h) (Or.inl ⟨by rfl, ?_⟩) ?_ ?_
 rotate_left
 ·intro w'
  go_simp
  with_reducible rfl
 rotate_left
 ·simp only [Act.put, List.setIfInBounds_toArray, List.set_cons_zero, List.set_cons_succ, i64_w, i32_w]
  rfl
 refine pure_ (i := 7) (N := some 13) (v := ?_) (a' := ?_) #[true, false, false, true, false, false, false, true, false, false, false, false, false, false, false, false, false, false, false, false, false, false, false, false, false, false, false, false, false, false, false, false] rfl rfl (any_of HT_.out (by kernel_rfl)) (fun _ _ _ h => h) (Or.inl ⟨by rfl, ?_⟩) ?_ ?_
 rotate_left
 ·intro w'
  go_simp
  with_reducible rfl
 rotate_left
 ·simp only [Act.put, List.setIfInBounds_toArray, List.set_cons_zero, List.set_cons_succ, i64_w, i32_w]
  rfl
 refine pure_ (i := 11) (N := some 17) (v := ?_) (a' := ?_) #[true, false, false, true, false, false, false, true, false, false, false, true, false, false, false, false, false, false, false, false, false, false, false, false, false, false, false, false, false, false, false, false] rfl rfl (any_of HT_.out (by kernel_rfl)) (fun _ _ _ h => h) (Or.inl ⟨by rfl, ?_⟩) ?_ ?_
 rotate_left
 ·intro w'
  go_simp
  with_reducible rfl
 rotate_left
 ·simp only [Act.put, List.setIfInBounds_toArray, List.set_cons_zero, List.set_cons_succ, i64_w, i32_w]
  rfl
 refine pure_ (i := 15) (N := some 21) (v := ?_) (a' := ?_) #[true, false, false, true, false, false, false, true, false, false, false, true, false, false, false, true, false, false, false, false, false, false, false, false, false, false, false, false, false, false, false, false] rfl rfl (any_of HT_.out (by kernel_rfl)) (fun _ _ _ h => h) (Or.inl ⟨by rfl, ?_⟩) ?_ ?_
 rotate_left
 ·intro w'
  go_simp
  with_reducible rfl
 rotate_left
 ·simp only [Act.put, List.setIfInBounds_toArray, List.set_cons_zero, List.set_cons_succ, i64_w, i32_w]
  rfl
 refine pure_ (i := 19) (N := some 25) (v := ?_) (a' := ?_) #[true, false, false, true, false, false, false, true, false, false, false, true, false, false, false, true, false, false, false, true, false, false, false, false, false, false, false, false, false, false, false, false] rfl rfl (any_of HT_.out (by kernel_rfl)) (fun _ _ _ h => h) (Or.inl ⟨by rfl, ?_⟩) ?_ ?_
 rotate_left
 ·intro w'
  go_simp
  with_reducible rfl
 rotate_left
 ·simp only [Act.put, List.setIfInBounds_toArray, List.set_cons_zero, List.set_cons_succ, i64_w, i32_w]
  rfl
 refine pure_ (i := 21) (N := some 27) (v := ?_) (a' := ?_) #[true, false, false, true, false, false, false, true, false, false, false, true, false, false, false, true, false, false, false, true, false, true, false, false, false, false, false, false, false, false, false, false] rfl rfl (any_of HT_.out (by kernel_rfl)) (fun _ _ _ h => h) (Or.inl ⟨by rfl, ?_⟩) ?_ ?_
 rotate_left
 ·intro w'
  go_simp
  with_reducible rfl
 rotate_left
 ·simp only [Act.put, List.setIfInBounds_toArray, List.set_cons_zero, List.set_cons_succ, i64_w, i32_w]
  rfl
 refine pure_ (i := 23) (N := some 29) (v := ?_) (a' := ?_) #[true, false, false, true, false, false, false, true, false, false, false, true, false, false, false, true, false, false, false, true, false, true, false, true, false, false, false, false, false, false, false, false] rfl rfl (any_of HT_.out (by kernel_rfl)) (fun _ _ _ h => h) (Or.inl ⟨by rfl, ?_⟩) ?_ ?_
 rotate_left
 ·intro w'
  go_simp
  with_reducible rfl
 rotate_left
 ·simp only [Act.put, List.setIfInBounds_toArray, List.set_cons_zero, List.set_cons_succ, i64_w, i32_w]
  rfl
 refine pure_ (i := 26) (N := some 32) (v := ?_) (a' := ?_) #[true, false, false, true, false, false, false, true, false, false, false, true, false, false, false, true, false, false, false, true, false, true, false, true, false, false, true, false, false, false, false, false] rfl rfl (any_of HT_.out (by kernel_rfl)) (fun _ _ _ h => h) (Or.inl ⟨by rfl, ?_⟩) ?_ ?_
 rotate_left
 ·intro w'
  go_simp
  with_reducible rfl
 rotate_left
 ·simp only [Act.put, List.setIfInBounds_toArray, List.set_cons_zero, List.set_cons_succ, i64_w, i32_w]
  rfl
 refine take_ (i := 1) (N := some 7) (v := ?_) (a' := ?_) #[true, true, false, true, false, false, false, true, false, false, false, true, false, false, false, true, false, false, false, true, false, true, false, true, false, false, true, false, false, false, false, false] rfl rfl (take_ofW HT_.out HW_.out (by kernel_rfl)) (fun _ _ _ h => h) (Or.inl ⟨by rfl, ?_⟩) hHeld ?_ ?_
 rotate_left
 ·rintro w' ⟨s0, s1, s2, s3, s4, s5, s6, s7, s8, s9, s10, s11⟩
  go_simp
  with_reducible rfl
 rotate_left
 ·simp only [Act.put, List.setIfInBounds_toArray, List.set_cons_zero, List.set_cons_succ, i64_w, i32_w]
  rfl
 refine pure_ (i := 2) (N := some 8) (v := ?_) (a' := ?_) #[true, true, true, true, false, false, false, true, false, false, false, true, false, false, false, true, false, false, false, true, false, true, false, true, false, false, true, false, false, false, false, false] rfl rfl (any_of HT_.out (by kernel_rfl)) (fun _ _ _ h => h) (Or.inl ⟨by rfl, ?_⟩) ?_ ?_
 rotate_left
 ·intro w'
  go_simp
  with_reducible rfl
 rotate_left
 ·simp only [Act.put, List.setIfInBounds_toArray, List.set_cons_zero, List.set_cons_succ, i64_w, i32_w]
  rfl
 refine take_ (i := 4) (N := some 10) (v := ?_) (a' := ?_) #[true, true, true, true, true, false, false, true, false, false, false, true, false, false, false, true, false, false, false, true, false, true, false, true, false, false, true, false, false, false, false, false] rfl rfl (take_ofW HT_.out HW_.out (by kernel_rfl)) (fun _ _ _ h => h) (Or.inl ⟨by rfl, ?_⟩) hHeld ?_ ?_
 rotate_left
 ·rintro w' ⟨s0, s1, s2, s3, s4, s5, s6, s7, s8, s9, s10, s11⟩
  go_simp
  with_reducible rfl
 rotate_left
 ·simp only [Act.put, List.setIfInBounds_toArray, List.set_cons_zero, List.set_cons_succ, i64_w, i32_w]
  rfl
 refine pure_ (i := 5) (N := some 11) (v := ?_) (a' := ?_) #[true, true, true, true, true, true, false, true, false, false, false, true, false, false, false, true, false, false, false, true, false, true, false, true, false, false, true, false, false, false, false, false] rfl rfl (any_of HT_.out (by kernel_rfl)) (fun _ _ _ h => h) (Or.inl ⟨by rfl, ?_⟩) ?_ ?_
 rotate_left
 ·intro w'
  go_simp
  with_reducible rfl
 rotate_left
 ·simp only [Act.put, List.setIfInBounds_toArray, List.set_cons_zero, List.set_cons_succ, i64_w, i32_w]
  rfl
 refine pure_ (i := 6) (N := some 12) (v := ?_) (a' := ?_) #[true, true, true, true, true, true, true, true, false, false, false, true, false, false, false, true, false, false, false, true, false, true, false, true, false, false, true, false, false, false, false, false] rfl rfl (any_of HT_.out (by kernel_rfl)) (fun _ _ _ h => h) (Or.inl ⟨by rfl, ?_⟩) ?_ ?_
 rotate_left
 ·intro w'
  go_simp
  with_reducible rfl
 rotate_left
 ·simp only [Act.put, List.setIfInBounds_toArray, List.set_cons_zero, List.set_cons_succ, i64_w, i32_w]
  rfl
 refine take_ (i := 8) (N := some 14) (v := ?_) (a' := ?_) #[true, true, true, true, true, true, true, true, true, false, false, true, false, false, false, true, false, false, false, true, false, true, false, true, false, false, true, false, false, false, false, false] rfl rfl (take_ofW HT_.out HW_.out (by kernel_rfl)) (fun _ _ _ h => h) (Or.inl ⟨by rfl, ?_⟩) hHeld ?_ ?_
 rotate_left
 ·rintro w' ⟨s0, s1, s2, s3, s4, s5, s6, s7, s8, s9, s10, s11⟩
  go_simp
  with_reducible rfl
 rotate_left
 ·simp only [Act.put, List.setIfInBounds_toArray, List.set_cons_zero, List.set_cons_succ, i64_w, i32_w]
  rfl
 refine pure_ (i := 9) (N := some 15) (v := ?_) (a' := ?_) #[true, true, true, true, true, true, true, true, true, true, false, true, false, false, false, true, false, false, false, true, false, true, false, true, false, false, true, false, false, false, false, false] rfl rfl (any_of HT_.out (by kernel_rfl)) (fun _ _ _ h => h) (Or.inl ⟨by rfl, ?_⟩) ?_ ?_
 rotate_left
 ·intro w'
  go_simp
  with_reducible rfl
 rotate_left
 ·simp only [Act.put, List.setIfInBounds_toArray, List.set_cons_zero, List.set_cons_succ, i64_w, i32_w]
  rfl
 refine pure_ (i := 10) (N := some 16) (v := ?_) (a' := ?_) #[true, true, true, true, true, true, true, true, true, true, true, true, false, false, false, true, false, false, false, true, false, true, false, true, false, false, true, false, false, false, false, false] rfl rfl (any_of HT_.out (by kernel_rfl)) (fun _ _ _ h => h) (Or.inl ⟨by rfl, ?_⟩) ?_ ?_
 rotate_left
 ·intro w'
  go_simp
  with_reducible rfl
 rotate_left
 ·simp only [Act.put, List.setIfInBounds_toArray, List.set_cons_zero, List.set_cons_succ, i64_w, i32_w]
  rfl
 refine take_ (i := 12) (N := some 18) (v := ?_) (a' := ?_) #[true, true, true, true, true, true, true, true, true, true, true, true, true, false, false, true, false, false, false, true, false, true, false, true, false, false, true, false, false, false, false, false] rfl rfl (take_ofW HT_.out HW_.out (by kernel_rfl)) (fun _ _ _ h => h) (Or.inl ⟨by rfl, ?_⟩) hHeld ?_ ?_
 rotate_left
 ·rintro w' ⟨s0, s1, s2, s3, s4, s5, s6, s7, s8, s9, s10, s11⟩
  go_simp
  with_reducible rfl
 rotate_left
 ·simp only [Act.put, List.setIfInBounds_toArray, List.set_cons_zero, List.set_cons_succ, i64_w, i32_w]
  rfl
 refine pure_ (i := 13) (N := some 19) (v := ?_) (a' := ?_) #[true, true, true, true, true, true, true, true, true, true, true, true, true, true, false, true, false, false, false, true, false, true, false, true, false, false, true, false, false, false, false, false] rfl rfl (any_of HT_.out (by kernel_rfl)) (fun _ _ _ h => h) (Or.inl ⟨by rfl, ?_⟩) ?_ ?_
 rotate_left
 ·intro w'
  go_simp
  with_reducible rfl
 rotate_left
 ·simp only [Act.put, List.setIfInBounds_toArray, List.set_cons_zero, List.set_cons_succ, i64_w, i32_w]
  rfl
 refine pure_ (i := 14) (N := some 20) (v := ?_) (a' := ?_) #[true, true, true, true, true, true, true, true, true, true, true, true, true, true, true, true, false, false, false, true, false, true, false, true, false, false, true, false, false, false, false, false] rfl rfl (any_of HT_.out (by kernel_rfl)) (fun _ _ _ h => h) (Or.inl ⟨by rfl, ?_⟩) ?_ ?_
 rotate_left
 ·intro w'
  go_simp
  with_reducible rfl
 rotate_left
 ·simp only [Act.put, List.setIfInBounds_toArray, List.set_cons_zero, List.set_cons_succ, i64_w, i32_w]
  rfl
 refine take_ (i := 16) (N := some 22) (v := ?_) (a' := ?_) #[true, true, true, true, true, true, true, true, true, true, true, true, true, true, true, true, true, false, false, true, false, true, false, true, false, false, true, false, false, false, false, false] rfl rfl (take_ofW HT_.out HW_.out (by kernel_rfl)) (fun _ _ _ h => h) (Or.inl ⟨by rfl, ?_⟩) hHeld ?_ ?_
 rotate_left
 ·rintro w' ⟨s0, s1, s2, s3, s4, s5, s6, s7, s8, s9, s10, s11⟩
  go_simp
  with_reducible rfl
 rotate_left
 ·simp only [Act.put, List.setIfInBounds_toArray, List.set_cons_zero, List.set_cons_succ, i64_w, i32_w]
  rfl
 refine pure_ (i := 17) (N := some 23) (v := ?_) (a' := ?_) #[true, true, true, true, true, true, true, true, true, true, true, true, true, true, true, true, true, true, false, true, false, true, false, true, false, false, true, false, false, false, false, false] rfl rfl (any_of HT_.out (by kernel_rfl)) (fun _ _ _ h => h) (Or.inl ⟨by rfl, ?_⟩) ?_ ?_
 rotate_left
 ·intro w'
  go_simp
  with_reducible rfl
 rotate_left
 ·simp only [Act.put, List.setIfInBounds_toArray, List.set_cons_zero, List.set_cons_succ, i64_w, i32_w]
  rfl
 refine pure_ (i := 18) (N := some 24) (v := ?_) (a' := ?_) #[true, true, true, true, true, true, true, true, true, true, true, true, true, true, true, true, true, true, true, true, false, true, false, true, false, false, true, false, false, false, false, false] rfl rfl (any_of HT_.out (by kernel_rfl)) (fun _ _ _ h => h) (Or.inl ⟨by rfl, ?_⟩) ?_ ?_
 rotate_left
 ·intro w'
  go_simp
  with_reducible rfl
 rotate_left
 ·simp only [Act.put, List.setIfInBounds_toArray, List.set_cons_zero, List.set_cons_succ, i64_w, i32_w]
  rfl
 refine take_ (i := 20) (N := some 26) (v := ?_) (a' := ?_) #[true, true, true, true, true, true, true, true, true, true, true, true, true, true, true, true, true, true, true, true, true, true, false, true, false, false, true, false, false, false, false, false] rfl rfl (take_ofW HT_.out HW_.out (by kernel_rfl)) (fun _ _ _ h => h) (Or.inl ⟨by rfl, ?_⟩) hHeld ?_ ?_
 rotate_left
 ·rintro w' ⟨s0, s1, s2, s3, s4, s5, s6, s7, s8, s9, s10, s11⟩
  go_simp
  with_reducible rfl
 rotate_left
 ·simp only [Act.put, List.setIfInBounds_toArray, List.set_cons_zero, List.set_cons_succ, i64_w, i32_w]
  rfl
 refine pure_ (i := 22) (N := some 28) (v := ?_) (a' := ?_) #[true, true, true, true, true, true, true, true, true, true, true, true, true, true, true, true, true, true, true, true, true, true, true, true, false, false, true, false, false, false, false, false] rfl rfl (any_of HT_.out (by kernel_rfl)) (fun _ _ _ h => h) (Or.inl ⟨by rfl, ?_⟩) ?_ ?_
 rotate_left
 ·intro w'
  go_simp
  with_reducible rfl
 rotate_left
 ·simp only [Act.put, List.setIfInBounds_toArray, List.set_cons_zero, List.set_cons_succ, i64_w, i32_w]
  rfl
 refine take_ (i := 24) (N := some 30) (v := ?_) (a' := ?_) #[true, true, true, true, true, true, true, true, true, true, true, true, true, true, true, true, true, true, true, true, true, true, true, true, true, false, true, false, false, false, false, false] rfl rfl (take_ofW HT_.out HW_.out (by kernel_rfl)) (fun _ _ _ h => h) (Or.inl ⟨by rfl, ?_⟩) hHeld ?_ ?_
 rotate_left
 ·rintro w' ⟨s0, s1, s2, s3, s4, s5, s6, s7, s8, s9, s10, s11⟩
  go_simp
  with_reducible rfl
 rotate_left
 ·simp only [Act.put, List.setIfInBounds_toArray, List.set_cons_zero, List.set_cons_succ, i64_w, i32_w]
  rfl
 refine pure_ (i := 25) (N := some 31) (v := ?_) (a' := ?_) #[true, true, true, true, true, true, true, true, true, true, true, true, true, true, true, true, true, true, true, true, true, true, true, true, true, true, true, false, false, false, false, false] rfl rfl (any_of HT_.out (by kernel_rfl)) (fun _ _ _ h => h) (Or.inl ⟨by rfl, ?_⟩) ?_ ?_
 rotate_left
 ·intro w'
  go_simp
  with_reducible rfl
 rotate_left
 ·simp only [Act.put, List.setIfInBounds_toArray, List.set_cons_zero, List.set_cons_succ, i64_w, i32_w]
  rfl
 refine take_ (i := 27) (N := some 33) (v := ?_) (a' := ?_) #[true, true, true, true, true, true, true, true, true, true, true, true, true, true, true, true, true, true, true, true, true, true, true, true, true, true, true, true, false, false, false, false] rfl rfl (take_ofW HT_.out HW_.out (by kernel_rfl)) (fun _ _ _ h => h) (Or.inl ⟨by rfl, ?_⟩) hHeld ?_ ?_
 rotate_left
 ·rintro w' ⟨s0, s1, s2, s3, s4, s5, s6, s7, s8, s9, s10, s11⟩
  go_simp
  with_reducible rfl
 rotate_left
 ·simp only [Act.put, List.setIfInBounds_toArray, List.set_cons_zero, List.set_cons_succ, i64_w, i32_w]
  rfl
 refine pure_ (i := 28) (N := some 34) (v := ?_) (a' := ?_) #[true, true, true, true, true, true, true, true, true, true, true, true, true, true, true, true, true, true, true, true, true, true, true, true, true, true, true, true, true, false, false, false] rfl rfl (any_of HT_.out (by kernel_rfl)) (fun _ _ _ h => h) (Or.inl ⟨by rfl, ?_⟩) ?_ ?_
 rotate_left
 ·intro w'
  go_simp
  with_reducible rfl
 rotate_left
 ·simp only [Act.put, List.setIfInBounds_toArray, List.set_cons_zero, List.set_cons_succ, i64_w, i32_w]
  rfl
 refine pure_ (i := 29) (N := some 35) (v := ?_) (a' := ?_) #[true, true, true, true, true, true, true, true, true, true, true, true, true, true, true, true, true, true, true, true, true, true, true, true, true, true, true, true, true, true, false, false] rfl rfl (any_of HT_.out (by kernel_rfl)) (fun _ _ _ h => h) (Or.inl ⟨by rfl, ?_⟩) ?_ ?_
 rotate_left
 ·intro w'
  go_simp
  with_reducible rfl
 rotate_left
 ·simp only [Act.put, List.setIfInBounds_toArray, List.set_cons_zero, List.set_cons_succ, i64_w, i32_w]
  rfl
 refine one_ (i := 30) (N := some 3) #[true, true, true, true, true, true, true, true, true, true, true, true, true, true, true, true, true, true, true, true, true, true, true, true, true, true, true, true, true, true, true, false] rfl rfl (one_of HT_.out (by kernel_rfl)) (by decide) (fun K hK => ?_)
 refine box_step ?hg (N := 3) ?hd (cs := #[.bool false, .bool false, .bool false, .bool false, .bool false, .bool false, .bool false, .bool false]) (t := 54) ?hr ?_; (case hd => rfl); (case hg => rfl); (case hr => first | (go_simp; done) | (go_simp; rfl))
 intro gb102 hg w5 hbox hb
 have n0_ := Aside0.mk (blk_below (g := gb101) (o := .cells #[.int .i64 a0_0, .int .i64 a0_1, .int .i64 a0_2, .slice A0_3 l0_3.length c0_3, .slice A0_4 l0_4.length c0_4, .slice A0_5 l0_5.length c0_5, .slice A0_6 l0_6.length c0_6, .int .i64 a0_7, .int .i64 a0_8, .int .i64 a0_9, .int .i64 a0_10, .int .i64 a0_11] 40 (0, 0)) (by (with_reducible repeat (first | refine blk_drewN ?_ _ | refine blk_drew ?_ | refine blk_alloc ?_ _)); exact BK101.out) hb)
 have n1_ := Aside0.mk (below_step (by repeat (first | (with_reducible first | exact HB.out | apply below_alloc | apply pw_below_drewN | apply below_drew1 | refine below_set ?_ GE101.out) | exact HB.out)) hb)
 have n2_ := Aside0.mk (hbox)
 have n3_ := Aside0.mk ((by rw [hg]; exact (below_size (by repeat (first | (with_reducible first | exact HB.out | apply below_alloc | apply pw_below_drewN | apply below_drew1 | refine below_set ?_ GE101.out) | exact HB.out))) : w.heap.size ≤ gb102))
 have n4_ := Aside0.mk ((by rw [hg]; exact (below_size (by repeat (first | (with_reducible first | exact HB.out | apply below_alloc | apply pw_below_drewN | apply below_drew1 | refine below_set ?_ GE101.out) | exact HB.out))) : w.heap.size ≤ gb102))
 have n5_ := Aside0.mk ((by rw [hg]; exact Nat.ne_of_lt (blk_lt (g := gb101) (o := .cells #[.int .i64 a0_0, .int .i64 a0_1, .int .i64 a0_2, .slice A0_3 l0_3.length c0_3, .slice A0_4 l0_4.length c0_4, .slice A0_5 l0_5.length c0_5, .slice A0_6 l0_6.length c0_6, .int .i64 a0_7, .int .i64 a0_8, .int .i64 a0_9, .int .i64 a0_10, .int .i64 a0_11] 40 (0, 0)) (by (with_reducible repeat (first | refine blk_drewN ?_ _ | refine blk_drew ?_ | refine blk_alloc ?_ _)); exact BK101.out)) : gb101 ≠ gb102))
 have n6_ := Aside0.mk ((by rw [hg]; exact Nat.ne_of_gt (blk_lt (g := gb101) (o := .cells #[.int .i64 a0_0, .int .i64 a0_1, .int .i64 a0_2, .slice A0_3 l0_3.length c0_3, .slice A0_4 l0_4.length c0_4, .slice A0_5 l0_5.length c0_5, .slice A0_6 l0_6.length c0_6, .int .i64 a0_7, .int .i64 a0_8, .int .i64 a0_9, .int .i64 a0_10, .int .i64 a0_11] 40 (0, 0)) (by (with_reducible repeat (first | refine blk_drewN ?_ _ | refine blk_drew ?_ | refine blk_alloc ?_ _)); exact BK101.out)) : gb102 ≠ gb101))
 clear BK101
 clear HB
 have BK101 := n0_
 have HB := n1_
 have BK102 := n2_
 have GW102 := n3_
 have GE102 := n4_
 have NB101_102 := n5_
 have NB102_101 := n6_
 clear n0_ n1_ n2_ n3_ n4_ n5_ n6_
 clear hb hbox hg
 refine hK.out _ _ ⟨(blk_cell BK101.out 0).trans rfl, (blk_cell BK101.out 1).trans rfl, (blk_cell BK101.out 2).trans rfl, (blk_cell BK101.out 3).trans rfl, (blk_cell BK101.out 4).trans rfl, (blk_cell BK101.out 5).trans rfl, (blk_cell BK101.out 6).trans rfl, (blk_cell BK101.out 7).trans rfl, (blk_cell BK101.out 8).trans rfl, (blk_cell BK101.out 9).trans rfl, (blk_cell BK101.out 10).trans rfl, (blk_cell BK101.out 11).trans rfl⟩ (fun hHeld => ?_)
 clear hK K
 refine norm_ (a' := ?_) ?_ ?_
 rotate_left
 ·show Act.put _ (some 3) _ = _
  simp only [Act.put, List.setIfInBounds_toArray, List.set_cons_zero, List.set_cons_succ, i64_w, i32_w]
  rfl
 refine one_ (i := 31) (N := none) #[true, true, true, true, true, true, true, true, true, true, true, true, true, true, true, true, true, true, true, true, true, true, true, true, true, true, true, true, true, true, true, true] rfl rfl (one_of HT_.out (by kernel_rfl)) (by decide) (fun K hK => ?_)
 have hs6 : w5.cell? ⟨gb102, 0, none⟩ = some (.bool false) := (blk_cell BK102.out 0).trans rfl
 have hfs6 := blk_frozen BK102.out 0
 have hns6_0 := NB101_102.out
 have hms6_0 := NB102_101.out
 have hs7 : w5.cell? ⟨gb102, 1, none⟩ = some (.bool false) := (blk_cell BK102.out 1).trans rfl
 have hfs7 := blk_frozen BK102.out 1
 have hns7_0 := NB101_102.out
 have hms7_0 := NB102_101.out
 have hs8 : w5.cell? ⟨gb102, 2, none⟩ = some (.bool false) := (blk_cell BK102.out 2).trans rfl
 have hfs8 := blk_frozen BK102.out 2
 have hns8_0 := NB101_102.out
 have hms8_0 := NB102_101.out
 have hs9 : w5.cell? ⟨gb102, 3, none⟩ = some (.bool false) := (blk_cell BK102.out 3).trans rfl
 have hfs9 := blk_frozen BK102.out 3
 have hns9_0 := NB101_102.out
 have hms9_0 := NB102_101.out
 have hs10 : w5.cell? ⟨gb102, 4, none⟩ = some (.bool false) := (blk_cell BK102.out 4).trans rfl
 have hfs10 := blk_frozen BK102.out 4
 have hns10_0 := NB101_102.out
 have hms10_0 := NB102_101.out
 have hs11 : w5.cell? ⟨gb102, 5, none⟩ = some (.bool false) := (blk_cell BK102.out 5).trans rfl
 have hfs11 := blk_frozen BK102.out 5
 have hns11_0 := NB101_102.out
 have hms11_0 := NB102_101.out
 have hs12 : w5.cell? ⟨gb102, 6, none⟩ = some (.bool false) := (blk_cell BK102.out 6).trans rfl
 have hfs12 := blk_frozen BK102.out 6
 have hns12_0 := NB101_102.out
 have hms12_0 := NB102_101.out
 have hs13 : w5.cell? ⟨gb102, 7, none⟩ = some (.bool false) := (blk_cell BK102.out 7).trans rfl
 have hfs13 := blk_frozen BK102.out 7
 have hns13_0 := NB101_102.out
 have hms13_0 := NB102_101.out
 refine skip_ (w1 := ?_) (by rfl) rfl ?_ ?_
 rotate_left
 ·go_simp
  rfl
 refine hK.out _ _ ⟨((cell_far (p := ⟨gb102, _, none⟩) NB101_102.out _).trans (((cell_far (p := ⟨gb102, _, none⟩) NB101_102.out _).trans (((cell_far (p := ⟨gb102, _, none⟩) NB101_102.out _).trans (((cell_far (p := ⟨gb102, _, none⟩) NB101_102.out _).trans (((cell_far (p := ⟨gb102, _, none⟩) NB101_102.out _).trans (((cell_far (p := ⟨gb102, _, none⟩) NB101_102.out _).trans (((cell_far (p := ⟨gb102, _, none⟩) NB101_102.out _).trans (((cell_far (p := ⟨gb102, _, none⟩) NB101_102.out _).trans (hHeld.1)))))))))))))))), ((cell_far (p := ⟨gb102, _, none⟩) NB101_102.out _).trans (((cell_far (p := ⟨gb102, _, none⟩) NB101_102.out _).trans (((cell_far (p := ⟨gb102, _, none⟩) NB101_102.out _).trans (((cell_far (p := ⟨gb102, _, none⟩) NB101_102.out _).trans (((cell_far (p := ⟨gb102, _, none⟩) NB101_102.out _).trans (((cell_far (p := ⟨gb102, _, none⟩) NB101_102.out _).trans (((cell_far (p := ⟨gb102, _, none⟩) NB101_102.out _).trans (((cell_far (p := ⟨gb102, _, none⟩) NB101_102.out _).trans (hHeld.2.1)))))))))))))))), ((cell_far (p := ⟨gb102, _, none⟩) NB101_102.out _).trans (((cell_far (p := ⟨gb102, _, none⟩) NB101_102.out _).trans (((cell_far (p := ⟨gb102, _, none⟩) NB101_102.out _).trans (((cell_far (p := ⟨gb102, _, none⟩) NB101_102.out _).trans (((cell_far (p := ⟨gb102, _, none⟩) NB101_102.out _).trans (((cell_far (p := ⟨gb102, _, none⟩) NB101_102.out _).trans (((cell_far (p := ⟨gb102, _, none⟩) NB101_102.out _).trans (((cell_far (p := ⟨gb102, _, none⟩) NB101_102.out _).trans (hHeld.2.2.1)))))))))))))))), ((cell_far (p := ⟨gb102, _, none⟩) NB101_102.out _).trans (((cell_far (p := ⟨gb102, _, none⟩) NB101_102.out _).trans (((cell_far (p := ⟨gb102, _, none⟩) NB101_102.out _).trans (((cell_far (p := ⟨gb102, _, none⟩) NB101_102.out _).trans (((cell_far (p := ⟨gb102, _, none⟩) NB101_102.out _).trans (((cell_far (p := ⟨gb102, _, none⟩) NB101_102.out _).trans (((cell_far (p := ⟨gb102, _, none⟩) NB101_102.out _).trans (((cell_far (p := ⟨gb102, _, none⟩) NB101_102.out _).trans (hHeld.2.2.2.1)))))))))))))))), ((cell_far (p := ⟨gb102, _, none⟩) NB101_102.out _).trans (((cell_far (p := ⟨gb102, _, none⟩) NB101_102.out _).trans (((cell_far (p := ⟨gb102, _, none⟩) NB101_102.out _).trans (((cell_far (p := ⟨gb102, _, none⟩) NB101_102.out _).trans (((cell_far (p := ⟨gb102, _, none⟩) NB101_102.out _).trans (((cell_far (p := ⟨gb102, _, none⟩) NB101_102.out _).trans (((cell_far (p := ⟨gb102, _, none⟩) NB101_102.out _).trans (((cell_far (p := ⟨gb102, _, none⟩) NB101_102.out _).trans (hHeld.2.2.2.2.1)))))))))))))))), ((cell_far (p := ⟨gb102, _, none⟩) NB101_102.out _).trans (((cell_far (p := ⟨gb102, _, none⟩) NB101_102.out _).trans (((cell_far (p := ⟨gb102, _, none⟩) NB101_102.out _).trans (((cell_far (p := ⟨gb102, _, none⟩) NB101_102.out _).trans (((cell_far (p := ⟨gb102, _, none⟩) NB101_102.out _).trans (((cell_far (p := ⟨gb102, _, none⟩) NB101_102.out _).trans (((cell_far (p := ⟨gb102, _, none⟩) NB101_102.out _).trans (((cell_far (p := ⟨gb102, _, none⟩) NB101_102.out _).trans (hHeld.2.2.2.2.2.1)))))))))))))))), ((cell_far (p := ⟨gb102, _, none⟩) NB101_102.out _).trans (((cell_far (p := ⟨gb102, _, none⟩) NB101_102.out _).trans (((cell_far (p := ⟨gb102, _, none⟩) NB101_102.out _).trans (((cell_far (p := ⟨gb102, _, none⟩) NB101_102.out _).trans (((cell_far (p := ⟨gb102, _, none⟩) NB101_102.out _).trans (((cell_far (p := ⟨gb102, _, none⟩) NB101_102.out _).trans (((cell_far (p := ⟨gb102, _, none⟩) NB101_102.out _).trans (((cell_far (p := ⟨gb102, _, none⟩) NB101_102.out _).trans (hHeld.2.2.2.2.2.2.1)))))))))))))))), ((cell_far (p := ⟨gb102, _, none⟩) NB101_102.out _).trans (((cell_far (p := ⟨gb102, _, none⟩) NB101_102.out _).trans (((cell_far (p := ⟨gb102, _, none⟩) NB101_102.out _).trans (((cell_far (p := ⟨gb102, _, none⟩) NB101_102.out _).trans (((cell_far (p := ⟨gb102, _, none⟩) NB101_102.out _).trans (((cell_far (p := ⟨gb102, _, none⟩) NB101_102.out _).trans (((cell_far (p := ⟨gb102, _, none⟩) NB101_102.out _).trans (((cell_far (p := ⟨gb102, _, none⟩) NB101_102.out _).trans (hHeld.2.2.2.2.2.2.2.1)))))))))))))))), ((cell_far (p := ⟨gb102, _, none⟩) NB101_102.out _).trans (((cell_far (p := ⟨gb102, _, none⟩) NB101_102.out _).trans (((cell_far (p := ⟨gb102, _, none⟩) NB101_102.out _).trans (((cell_far (p := ⟨gb102, _, none⟩) NB101_102.out _).trans (((cell_far (p := ⟨gb102, _, none⟩) NB101_102.out _).trans (((cell_far (p := ⟨gb102, _, none⟩) NB101_102.out _).trans (((cell_far (p := ⟨gb102, _, none⟩) NB101_102.out _).trans (((cell_far (p := ⟨gb102, _, none⟩) NB101_102.out _).trans (hHeld.2.2.2.2.2.2.2.2.1)))))))))))))))), ((cell_far (p := ⟨gb102, _, none⟩) NB101_102.out _).trans (((cell_far (p := ⟨gb102, _, none⟩) NB101_102.out _).trans (((cell_far (p := ⟨gb102, _, none⟩) NB101_102.out _).trans (((cell_far (p := ⟨gb102, _, none⟩) NB101_102.out _).trans (((cell_far (p := ⟨gb102, _, none⟩) NB101_102.out _).trans (((cell_far (p := ⟨gb102, _, none⟩) NB101_102.out _).trans (((cell_far (p := ⟨gb102, _, none⟩) NB101_102.out _).trans (((cell_far (p := ⟨gb102, _, none⟩) NB101_102.out _).trans (hHeld.2.2.2.2.2.2.2.2.2.1)))))))))))))))), ((cell_far (p := ⟨gb102, _, none⟩) NB101_102.out _).trans (((cell_far (p := ⟨gb102, _, none⟩) NB101_102.out _).trans (((cell_far (p := ⟨gb102, _, none⟩) NB101_102.out _).trans (((cell_far (p := ⟨gb102, _, none⟩) NB101_102.out _).trans (((cell_far (p := ⟨gb102, _, none⟩) NB101_102.out _).trans (((cell_far (p := ⟨gb102, _, none⟩) NB101_102.out _).trans (((cell_far (p := ⟨gb102, _, none⟩) NB101_102.out _).trans (((cell_far (p := ⟨gb102, _, none⟩) NB101_102.out _).trans (hHeld.2.2.2.2.2.2.2.2.2.2.1)))))))))))))))), ((cell_far (p := ⟨gb102, _, none⟩) NB101_102.out _).trans (((cell_far (p := ⟨gb102, _, none⟩) NB101_102.out _).trans (((cell_far (p := ⟨gb102, _, none⟩) NB101_102.out _).trans (((cell_far (p := ⟨gb102, _, none⟩) NB101_102.out _).trans (((cell_far (p := ⟨gb102, _, none⟩) NB101_102.out _).trans (((cell_far (p := ⟨gb102, _, none⟩) NB101_102.out _).trans (((cell_far (p := ⟨gb102, _, none⟩) NB101_102.out _).trans (((cell_far (p := ⟨gb102, _, none⟩) NB101_102.out _).trans (hHeld.2.2.2.2.2.2.2.2.2.2.2))))))))))))))))⟩ (fun hHeld => ?_)
 clear hK K
 refine done_ (done_of HT_.out (by kernel_rfl)) ?_
 have hnb14 := NB101_102.out
 have hnc14 := NB102_101.out
 have hcz15_0 : w5.cell? ⟨gb101, 0, none⟩ = some (.int .i64 a0_0) := (blk_cell BK101.out 0).trans rfl
 have hcz15_1 : w5.cell? ⟨gb101, 1, none⟩ = some (.int .i64 a0_1) := (blk_cell BK101.out 1).trans rfl
 have hcz15_2 : w5.cell? ⟨gb101, 2, none⟩ = some (.int .i64 a0_2) := (blk_cell BK101.out 2).trans rfl
 have hcz15_3 : w5.cell? ⟨gb101, 3, none⟩ = some (.slice A0_3 l0_3.length c0_3) := (blk_cell BK101.out 3).trans rfl
 have hcz15_4 : w5.cell? ⟨gb101, 4, none⟩ = some (.slice A0_4 l0_4.length c0_4) := (blk_cell BK101.out 4).trans rfl
 have hcz15_5 : w5.cell? ⟨gb101, 5, none⟩ = some (.slice A0_5 l0_5.length c0_5) := (blk_cell BK101.out 5).trans rfl
 have hcz15_6 : w5.cell? ⟨gb101, 6, none⟩ = some (.slice A0_6 l0_6.length c0_6) := (blk_cell BK101.out 6).trans rfl
 have hcz15_7 : w5.cell? ⟨gb101, 7, none⟩ = some (.int .i64 a0_7) := (blk_cell BK101.out 7).trans rfl
 have hcz15_8 : w5.cell? ⟨gb101, 8, none⟩ = some (.int .i64 a0_8) := (blk_cell BK101.out 8).trans rfl
 have hcz15_9 : w5.cell? ⟨gb101, 9, none⟩ = some (.int .i64 a0_9) := (blk_cell BK101.out 9).trans rfl
 have hcz15_10 : w5.cell? ⟨gb101, 10, none⟩ = some (.int .i64 a0_10) := (blk_cell BK101.out 10).trans rfl
 have hcz15_11 : w5.cell? ⟨gb101, 11, none⟩ = some (.int .i64 a0_11) := (blk_cell BK101.out 11).trans rfl
 have hfz15_0 := blk_frozen BK101.out 0
 have hfz15_1 := blk_frozen BK101.out 1
 have hfz15_2 := blk_frozen BK101.out 2
 have hfz15_3 := blk_frozen BK101.out 3
 have hfz15_4 := blk_frozen BK101.out 4
 have hfz15_5 := blk_frozen BK101.out 5
 have hfz15_6 := blk_frozen BK101.out 6
 have hfz15_7 := blk_frozen BK101.out 7
 have hfz15_8 := blk_frozen BK101.out 8
 have hfz15_9 := blk_frozen BK101.out 9
 have hfz15_10 := blk_frozen BK101.out 10
 have hfz15_11 := blk_frozen BK101.out 11
 go_upto_region 3 with (go_at_call 20; (with_reducible refine (plan_fields.calls k a0_0 t103 t104 t105 t106 t107 t108 t109 t110 _ A2.out).mono ?_); rintro e w16 ⟨rfl, hb⟩; have n1_ := Aside0.mk (blk_below (g := gb102) (o := .cells #[.bool (a0_2 != 0), .bool (decide (0 < l0_3.length)), .bool (decide (0 < l0_4.length)), .bool (decide (0 < l0_5.length)), .bool (decide (0 < l0_6.length)), .bool (!a0_7 == 0 || (!a0_8 == 0 || !a0_9 == 0)), .bool (a0_10 != 0), .bool (a0_11 != 0)] 54 (0, 0)) (by refine blk_put (cs := #[.bool (a0_2 != 0), .bool (decide (0 < l0_3.length)), .bool (decide (0 < l0_4.length)), .bool (decide (0 < l0_5.length)), .bool (decide (0 < l0_6.length)), .bool (!a0_7 == 0 || (!a0_8 == 0 || !a0_9 == 0)), .bool (a0_10 != 0), .bool false]) ?_ 7 _ rfl; refine blk_put (cs := #[.bool (a0_2 != 0), .bool (decide (0 < l0_3.length)), .bool (decide (0 < l0_4.length)), .bool (decide (0 < l0_5.length)), .bool (decide (0 < l0_6.length)), .bool (!a0_7 == 0 || (!a0_8 == 0 || !a0_9 == 0)), .bool false, .bool false]) ?_ 6 _ rfl; refine blk_put (cs := #[.bool (a0_2 != 0), .bool (decide (0 < l0_3.length)), .bool (decide (0 < l0_4.length)), .bool (decide (0 < l0_5.length)), .bool (decide (0 < l0_6.length)), .bool false, .bool false, .bool false]) ?_ 5 _ rfl; refine blk_put (cs := #[.bool (a0_2 != 0), .bool (decide (0 < l0_3.length)), .bool (decide (0 < l0_4.length)), .bool (decide (0 < l0_5.length)), .bool false, .bool false, .bool false, .bool false]) ?_ 4 _ rfl; refine blk_put (cs := #[.bool (a0_2 != 0), .bool (decide (0 < l0_3.length)), .bool (decide (0 < l0_4.length)), .bool false, .bool false, .bool false, .bool false, .bool false]) ?_ 3 _ rfl; refine blk_put (cs := #[.bool (a0_2 != 0), .bool (decide (0 < l0_3.length)), .bool false, .bool false, .bool false, .bool false, .bool false, .bool false]) ?_ 2 _ rfl; refine blk_put (cs := #[.bool (a0_2 != 0), .bool false, .bool false, .bool false, .bool false, .bool false, .bool false, .bool false]) ?_ 1 _ rfl; refine blk_put (cs := #[.bool false, .bool false, .bool false, .bool false, .bool false, .bool false, .bool false, .bool false]) ?_ 0 _ rfl; exact BK102.out) hb); have n2_ := Aside0.mk (below_step (by repeat (first | (with_reducible exact HB.out) | refine below_set ?_ GE102.out)) hb); clear hb)
 have hlt : gb102 < w16.heap.size := (Array.getElem?_eq_some_iff.1 n1_.out).1
 have hne : gb102 ≠ w16.heap.size := Nat.ne_of_lt hlt
 have hge : w.heap.size ≤ w16.heap.size := n2_.out.size
 refine gen_world (Φ := fun W => Below w.heap.size w W ∧ W.heap[gb102]? = some (.cells #[.bool (a0_2 != 0), .bool (decide (0 < l0_3.length)), .bool (decide (0 < l0_4.length)), .bool (decide (0 < l0_5.length)), .bool (decide (0 < l0_6.length)), .bool (!a0_7 == 0 || (!a0_8 == 0 || !a0_9 == 0)), .bool (a0_10 != 0), .bool (a0_11 != 0)] 54 (0, 0)) ∧ W.heap[w16.heap.size]? = some (.cells #[.bool t103, .bool t104, .bool t105, .bool t106, .bool t107, .bool t108, .bool t109, .bool t110] 54 (0, 0))) ⟨?hB, ?h3, ?h4⟩ ?_
 case hB => exact n2_.out.alloc hge _
 case h3 => exact blk_alloc n1_.out _
 case h4 => exact blk_new _ _
 rintro W ⟨hB, h3, h4⟩
 have HBW := Lib.hid hB
 have e0 : ∀ o : Obj, (W.alloc o).cell? ⟨gb102, 0, none⟩ = some (.bool (a0_2 != 0)) := fun o => (blk_cell (blk_alloc h3 o) 0).trans rfl
 have e1 : ∀ o : Obj, (W.alloc o).cell? ⟨gb102, 1, none⟩ = some (.bool (decide (0 < l0_3.length))) := fun o => (blk_cell (blk_alloc h3 o) 1).trans rfl
 have e2 : ∀ o : Obj, (W.alloc o).cell? ⟨gb102, 2, none⟩ = some (.bool (decide (0 < l0_4.length))) := fun o => (blk_cell (blk_alloc h3 o) 2).trans rfl
 have e3 : ∀ o : Obj, (W.alloc o).cell? ⟨gb102, 3, none⟩ = some (.bool (decide (0 < l0_5.length))) := fun o => (blk_cell (blk_alloc h3 o) 3).trans rfl
 have e4 : ∀ o : Obj, (W.alloc o).cell? ⟨gb102, 4, none⟩ = some (.bool (decide (0 < l0_6.length))) := fun o => (blk_cell (blk_alloc h3 o) 4).trans rfl
 have e5 : ∀ o : Obj, (W.alloc o).cell? ⟨gb102, 5, none⟩ = some (.bool (!a0_7 == 0 || (!a0_8 == 0 || !a0_9 == 0))) := fun o => (blk_cell (blk_alloc h3 o) 5).trans rfl
 have e6 : ∀ o : Obj, (W.alloc o).cell? ⟨gb102, 6, none⟩ = some (.bool (a0_10 != 0)) := fun o => (blk_cell (blk_alloc h3 o) 6).trans rfl
 have e7 : ∀ o : Obj, (W.alloc o).cell? ⟨gb102, 7, none⟩ = some (.bool (a0_11 != 0)) := fun o => (blk_cell (blk_alloc h3 o) 7).trans rfl
 have c0 : W.cell? ⟨gb102, 0, none⟩ = some (.bool (a0_2 != 0)) := (blk_cell h3 0).trans rfl
 have d0 : W.cell? ⟨w16.heap.size, 0, none⟩ = some (.bool t103) := (blk_cell h4 0).trans rfl
 have c1 : W.cell? ⟨gb102, 1, none⟩ = some (.bool (decide (0 < l0_3.length))) := (blk_cell h3 1).trans rfl
 have d1 : W.cell? ⟨w16.heap.size, 1, none⟩ = some (.bool t104) := (blk_cell h4 1).trans rfl
 have c2 : W.cell? ⟨gb102, 2, none⟩ = some (.bool (decide (0 < l0_4.length))) := (blk_cell h3 2).trans rfl
 have d2 : W.cell? ⟨w16.heap.size, 2, none⟩ = some (.bool t105) := (blk_cell h4 2).trans rfl
 have c3 : W.cell? ⟨gb102, 3, none⟩ = some (.bool (decide (0 < l0_5.length))) := (blk_cell h3 3).trans rfl
 have d3 : W.cell? ⟨w16.heap.size, 3, none⟩ = some (.bool t106) := (blk_cell h4 3).trans rfl
 have c4 : W.cell? ⟨gb102, 4, none⟩ = some (.bool (decide (0 < l0_6.length))) := (blk_cell h3 4).trans rfl
 have d4 : W.cell? ⟨w16.heap.size, 4, none⟩ = some (.bool t107) := (blk_cell h4 4).trans rfl
 have c5 : W.cell? ⟨gb102, 5, none⟩ = some (.bool (!a0_7 == 0 || (!a0_8 == 0 || !a0_9 == 0))) := (blk_cell h3 5).trans rfl
 have d5 : W.cell? ⟨w16.heap.size, 5, none⟩ = some (.bool t108) := (blk_cell h4 5).trans rfl
 have c6 : W.cell? ⟨gb102, 6, none⟩ = some (.bool (a0_10 != 0)) := (blk_cell h3 6).trans rfl
 have d6 : W.cell? ⟨w16.heap.size, 6, none⟩ = some (.bool t109) := (blk_cell h4 6).trans rfl
 have c7 : W.cell? ⟨gb102, 7, none⟩ = some (.bool (a0_11 != 0)) := (blk_cell h3 7).trans rfl
 have d7 : W.cell? ⟨w16.heap.size, 7, none⟩ = some (.bool t110) := (blk_cell h4 7).trans rfl
 clear hB h3 h4 n1_ n2_ hlt hge A2
 generalize w16.heap.size = g4 at *
 generalize hb0 : (a0_2 != 0) = b0 at c0 e0
 generalize hb1 : (decide (0 < l0_3.length)) = b1 at c1 e1
 generalize hb2 : (decide (0 < l0_4.length)) = b2 at c2 e2
 generalize hb3 : (decide (0 < l0_5.length)) = b3 at c3 e3
 generalize hb4 : (decide (0 < l0_6.length)) = b4 at c4 e4
 generalize hb5 : (!a0_7 == 0 || (!a0_8 == 0 || !a0_9 == 0)) = b5 at c5 e5
 generalize hb6 : (a0_10 != 0) = b6 at c6 e6
 generalize hb7 : (a0_11 != 0) = b7 at c7 e7
 clear HR0_3 HC0_3 HR0_4 HC0_4 HR0_5 HC0_5 HR0_6 HC0_6 HT_ HW_ GW101 GE101 BK101 HB BK102 GW102 GE102 NB101_102 NB102_101
 clear hs6 hfs6 hns6_0 hms6_0 hs7 hfs7 hns7_0 hms7_0 hs8 hfs8 hns8_0 hms8_0 hs9 hfs9 hns9_0 hms9_0 hs10 hfs10 hns10_0 hms10_0 hs11 hfs11 hns11_0 hms11_0 hs12 hfs12 hns12_0 hms12_0 hs13 hfs13 hns13_0 hms13_0
 clear hnb14 hnc14 hcz15_0 hfz15_0 hcz15_1 hfz15_1 hcz15_2 hfz15_2 hcz15_3 hfz15_3 hcz15_4 hfz15_4 hcz15_5 hfz15_5 hcz15_6 hfz15_6 hcz15_7 hfz15_7 hcz15_8 hfz15_8 hcz15_9 hfz15_9 hcz15_10 hfz15_10 hcz15_11 hfz15_11
 apply wp_region_lit
 iterate 9 go_step
 refine guard3 b0 t103 (.pointer (some ⟨g4, 0, none⟩)) rfl rfl rfl rfl (fun _ => rfl) ?_ ?_ ?_ ?_ ?_
 ·go_simp
 ·go_simp
 ·intro hb; go_simp
 ·intro hb; go_simp
 intro x0 y0
 simp only [Act.put, List.setIfInBounds_toArray, List.set_cons_succ, List.set_cons_zero]
 iterate 9 go_step
 refine guard3 b1 t104 (.pointer (some ⟨g4, 1, none⟩)) rfl rfl rfl rfl (fun _ => rfl) ?_ ?_ ?_ ?_ ?_
 ·go_simp
 ·go_simp
 ·intro hb; go_simp
 ·intro hb; go_simp
 intro x1 y1
 simp only [Act.put, List.setIfInBounds_toArray, List.set_cons_succ, List.set_cons_zero]
 iterate 9 go_step
 refine guard3 b2 t105 (.pointer (some ⟨g4, 2, none⟩)) rfl rfl rfl rfl (fun _ => rfl) ?_ ?_ ?_ ?_ ?_
 ·go_simp
 ·go_simp
 ·intro hb; go_simp
 ·intro hb; go_simp
 intro x2 y2
 simp only [Act.put, List.setIfInBounds_toArray, List.set_cons_succ, List.set_cons_zero]
 iterate 9 go_step
 refine guard3 b3 t106 (.pointer (some ⟨g4, 3, none⟩)) rfl rfl rfl rfl (fun _ => rfl) ?_ ?_ ?_ ?_ ?_
 ·go_simp
 ·go_simp
 ·intro hb; go_simp
 ·intro hb; go_simp
 intro x3 y3
 simp only [Act.put, List.setIfInBounds_toArray, List.set_cons_succ, List.set_cons_zero]
 iterate 9 go_step
 refine guard3 b4 t107 (.pointer (some ⟨g4, 4, none⟩)) rfl rfl rfl rfl (fun _ => rfl) ?_ ?_ ?_ ?_ ?_
 ·go_simp
 ·go_simp
 ·intro hb; go_simp
 ·intro hb; go_simp
 intro x4 y4
 simp only [Act.put, List.setIfInBounds_toArray, List.set_cons_succ, List.set_cons_zero]
 iterate 9 go_step
 refine guard3 b5 t108 (.pointer (some ⟨g4, 5, none⟩)) rfl rfl rfl rfl (fun _ => rfl) ?_ ?_ ?_ ?_ ?_
 ·go_simp
 ·go_simp
 ·intro hb; go_simp
 ·intro hb; go_simp
 intro x5 y5
 simp only [Act.put, List.setIfInBounds_toArray, List.set_cons_succ, List.set_cons_zero]
 iterate 9 go_step
 refine guard3 b6 t109 (.pointer (some ⟨g4, 6, none⟩)) rfl rfl rfl rfl (fun _ => rfl) ?_ ?_ ?_ ?_ ?_
 ·go_simp
 ·go_simp
 ·intro hb; go_simp
 ·intro hb; go_simp
 intro x6 y6
 simp only [Act.put, List.setIfInBounds_toArray, List.set_cons_succ, List.set_cons_zero]
 iterate 9 go_step
 refine guard3 b7 t110 (.pointer (some ⟨g4, 7, none⟩)) rfl rfl rfl rfl (fun _ => rfl) ?_ ?_ ?_ ?_ ?_
 ·go_simp
 ·go_simp
 ·intro hb; go_simp
 ·intro hb; go_simp
 intro x7 y7
 simp only [Act.put, List.setIfInBounds_toArray, List.set_cons_succ, List.set_cons_zero]
 go_wp2
 go_ret
 refine ⟨?_, HBW.out.alloc HBW.out.size _⟩
 rw [hb0, hb1, hb2, hb3, hb4, hb5, hb6, hb7]
 exact congrArg (fun v => Ending.returned (.bool v)) (spare_id b0 b1 b2 b3 b4 b5 b6 b7 t103 t104 t105 t106 t107 t108 t109 t110)
end Go.Proofs.Ytpidiibhgfjemaa.PLh
end
section
namespace Go.Proofs.Ytpidiibhgfjemaa.PLh
open Go.Proofs.Ytpidiibhgfjemaa.PLg
open Go.RowKit Go.Proofs.YtpidiibhgfjemaaW.PrintWords Go.Proofs.YtpidiibhgfjemaaW.PrintLast Go.Proofs.YtpidiibhgfjemaaW.PrintMore
open Go.Proofs.Ytpidiibhgfjemaa.PLo
attribute [local go_sem] max2_int max_two max_three
set_option linter.unusedVariables false
theorem form_bel (w : World) (o1 o2 : Obj) : Below w.heap.size w ((w.alloc o1).alloc o2) := ((Below.refl w.heap.size w).alloc (Nat.le_refl _) _).alloc (by simp) _
theorem form_node (w : World) (o1 o2 : Obj) : ((w.alloc o1).alloc o2).heap[w.heap.size]? = some o1 := blk_alloc (blk_new w o1) o2
theorem form_at (w : World) (o1 o2 : Obj) : ((w.alloc o1).alloc o2).heap[w.heap.size + 1]? = some o2 := by
 have := blk_new (w.alloc o1) o2
 rwa [World.size_alloc] at this
set_option maxHeartbeats 4000000 in
set_option maxRecDepth 100000 in
theorem form_low (a0_0 : Int) (a0_1 : Int) (a0_2 : Int) (A0_3 : Option Addr) (c0_3 : Nat) (l0_3 : List (List (S79))) (A0_4 : Option Addr) (c0_4 : Nat) (l0_4 : List ByteArray) (A0_5 : Option Addr) (c0_5 : Nat) (l0_5 : List Int) (A0_6 : Option Addr) (c0_6 : Nat) (l0_6 : List (S43)) (a0_7 : Int) (a0_8 : Int) (a0_9 : Int) (a0_10 : Int) (a0_11 : Int) (a1 : Int) (w : World) (h1 : a0_0 < 1) :
  Calls Try.prog 18 #[.agg #[.int .i64 a0_0, .int .i64 a0_1, .int .i64 a0_2, .slice A0_3 l0_3.length c0_3, .slice A0_4 l0_4.length c0_4, .slice A0_5 l0_5.length c0_5, .slice A0_6 l0_6.length c0_6, .int .i64 a0_7, .int .i64 a0_8, .int .i64 a0_9, .int .i64 a0_10, .int .i64 a0_11], .int .i64 a1] w fun e w' => e = .returned (.int .i64 12) ∧ Below w.heap.size w w' := by
 have hu := Try.underlying40
 have HB := Lib.hid (form_bel w (.cells #[.int .i64 a0_0, .int .i64 a0_1, .int .i64 a0_2, .slice A0_3 l0_3.length c0_3, .slice A0_4 l0_4.length c0_4, .slice A0_5 l0_5.length c0_5, .slice A0_6 l0_6.length c0_6, .int .i64 a0_7, .int .i64 a0_8, .int .i64 a0_9, .int .i64 a0_10, .int .i64 a0_11] 40 (0, 0)) (.cells #[.int .i64 a1] 3 (0, 0)))
 have b1 : decide (a0_0 < 1) = true := decide_eq_true h1
 clear h1
 go_enter Try.func18, Try.ntmps18
 go_wp2
 go_ret
 exact ⟨rfl, HB⟩
set_option maxHeartbeats 4000000 in
set_option maxRecDepth 100000 in
theorem form_high (a0_0 : Int) (a0_1 : Int) (a0_2 : Int) (A0_3 : Option Addr) (c0_3 : Nat) (l0_3 : List (List (S79))) (A0_4 : Option Addr) (c0_4 : Nat) (l0_4 : List ByteArray) (A0_5 : Option Addr) (c0_5 : Nat) (l0_5 : List Int) (A0_6 : Option Addr) (c0_6 : Nat) (l0_6 : List (S43)) (a0_7 : Int) (a0_8 : Int) (a0_9 : Int) (a0_10 : Int) (a0_11 : Int) (a1 : Int) (w : World) (h1 : a0_0 > 9) :
  Calls Try.prog 18 #[.agg #[.int .i64 a0_0, .int .i64 a0_1, .int .i64 a0_2, .slice A0_3 l0_3.length c0_3, .slice A0_4 l0_4.length c0_4, .slice A0_5 l0_5.length c0_5, .slice A0_6 l0_6.length c0_6, .int .i64 a0_7, .int .i64 a0_8, .int .i64 a0_9, .int .i64 a0_10, .int .i64 a0_11], .int .i64 a1] w fun e w' => e = .returned (.int .i64 12) ∧ Below w.heap.size w w' := by
 have hu := Try.underlying40
 have HB := Lib.hid (form_bel w (.cells #[.int .i64 a0_0, .int .i64 a0_1, .int .i64 a0_2, .slice A0_3 l0_3.length c0_3, .slice A0_4 l0_4.length c0_4, .slice A0_5 l0_5.length c0_5, .slice A0_6 l0_6.length c0_6, .int .i64 a0_7, .int .i64 a0_8, .int .i64 a0_9, .int .i64 a0_10, .int .i64 a0_11] 40 (0, 0)) (.cells #[.int .i64 a1] 3 (0, 0)))
 have b1 : decide (a0_0 < 1) = false := decide_eq_false (by omega)
 have b2 : decide (a0_0 > 9) = true := decide_eq_true h1
 clear h1
 go_enter Try.func18, Try.ntmps18
 go_wp2
 go_ret
 exact ⟨rfl, HB⟩
set_option maxHeartbeats 4000000 in
set_option maxRecDepth 100000 in
theorem form_long (a0_0 : Int) (a0_1 : Int) (a0_2 : Int) (A0_3 : Option Addr) (c0_3 : Nat) (l0_3 : List (List (S79))) (A0_4 : Option Addr) (c0_4 : Nat) (l0_4 : List ByteArray) (A0_5 : Option Addr) (c0_5 : Nat) (l0_5 : List Int) (A0_6 : Option Addr) (c0_6 : Nat) (l0_6 : List (S43)) (a0_7 : Int) (a0_8 : Int) (a0_9 : Int) (a0_10 : Int) (a0_11 : Int) (a1 : Int) (w : World) (h1 : 1 ≤ a0_0) (h2 : a0_0 ≤ 9) (h3 : 8 < max (max l0_3.length l0_4.length) l0_5.length) :
  Calls Try.prog 18 #[.agg #[.int .i64 a0_0, .int .i64 a0_1, .int .i64 a0_2, .slice A0_3 l0_3.length c0_3, .slice A0_4 l0_4.length c0_4, .slice A0_5 l0_5.length c0_5, .slice A0_6 l0_6.length c0_6, .int .i64 a0_7, .int .i64 a0_8, .int .i64 a0_9, .int .i64 a0_10, .int .i64 a0_11], .int .i64 a1] w fun e w' => e = .returned (.int .i64 6) ∧ Below w.heap.size w w' := by
 have hu := Try.underlying40
 have HB := Lib.hid (form_bel w (.cells #[.int .i64 a0_0, .int .i64 a0_1, .int .i64 a0_2, .slice A0_3 l0_3.length c0_3, .slice A0_4 l0_4.length c0_4, .slice A0_5 l0_5.length c0_5, .slice A0_6 l0_6.length c0_6, .int .i64 a0_7, .int .i64 a0_8, .int .i64 a0_9, .int .i64 a0_10, .int .i64 a0_11] 40 (0, 0)) (.cells #[.int .i64 a1] 3 (0, 0)))
 have b1 : decide (a0_0 < 1) = false := decide_eq_false (by omega)
 have b2 : decide (a0_0 > 9) = false := decide_eq_false (by omega)
 clear h1 h2
 go_enter Try.func18, Try.ntmps18
 go_wp2
 all_goals first
  | (go_ret; exact ⟨rfl, HB⟩)
  | (exfalso; simp only [Int.not_lt] at *; omega)
set_option maxHeartbeats 4000000 in
set_option maxRecDepth 100000 in
theorem form_aggs (a0_0 : Int) (a0_1 : Int) (a0_2 : Int) (A0_3 : Option Addr) (c0_3 : Nat) (l0_3 : List (List (S79))) (A0_4 : Option Addr) (c0_4 : Nat) (l0_4 : List ByteArray) (A0_5 : Option Addr) (c0_5 : Nat) (l0_5 : List Int) (A0_6 : Option Addr) (c0_6 : Nat) (l0_6 : List (S43)) (a0_7 : Int) (a0_8 : Int) (a0_9 : Int) (a0_10 : Int) (a0_11 : Int) (a1 : Int) (w : World) (h1 : 1 ≤ a0_0) (h2 : a0_0 ≤ 9) (h3 : l0_3.length ≤ 8) (h4 : l0_4.length ≤ 8) (h5 : l0_5.length ≤ 8) (h6 : 8 < l0_6.length) :
  Calls Try.prog 18 #[.agg #[.int .i64 a0_0, .int .i64 a0_1, .int .i64 a0_2, .slice A0_3 l0_3.length c0_3, .slice A0_4 l0_4.length c0_4, .slice A0_5 l0_5.length c0_5, .slice A0_6 l0_6.length c0_6, .int .i64 a0_7, .int .i64 a0_8, .int .i64 a0_9, .int .i64 a0_10, .int .i64 a0_11], .int .i64 a1] w fun e w' => e = .returned (.int .i64 6) ∧ Below w.heap.size w w' := by
 have hu := Try.underlying40
 have HB := Lib.hid (form_bel w (.cells #[.int .i64 a0_0, .int .i64 a0_1, .int .i64 a0_2, .slice A0_3 l0_3.length c0_3, .slice A0_4 l0_4.length c0_4, .slice A0_5 l0_5.length c0_5, .slice A0_6 l0_6.length c0_6, .int .i64 a0_7, .int .i64 a0_8, .int .i64 a0_9, .int .i64 a0_10, .int .i64 a0_11] 40 (0, 0)) (.cells #[.int .i64 a1] 3 (0, 0)))
 obtain ⟨m1, hm1⟩ : ∃ m : Int, (if (l0_3.length : Int) < (l0_4.length : Int) then (l0_4.length : Int) else (l0_3.length : Int)) = m := ⟨_, rfl⟩
 obtain ⟨m2, hm2⟩ : ∃ m : Int, (if m1 < (l0_5.length : Int) then (l0_5.length : Int) else m1) = m := ⟨_, rfl⟩
 have hm3 : (if l0_3.length < l0_4.length then (l0_4.length : Int) else (l0_3.length : Int)) = m1 := by rw [← hm1]; split <;> split <;> first | rfl | omega
 have b1 : decide (a0_0 < 1) = false := decide_eq_false (by omega)
 have b2 : decide (a0_0 > 9) = false := decide_eq_false (by omega)
 have b3 : decide (m2 > 8) = false := by
  refine decide_eq_false ?_
  have e1 : m1 ≤ 8 := by rw [← hm1]; split <;> omega
  have e2 : m2 ≤ 8 := by rw [← hm2]; split <;> omega
  omega
 have b4 : decide ((l0_6.length : Int) > 8) = true := decide_eq_true (by omega)
 have b5 : decide (8 < l0_6.length) = true := decide_eq_true (by omega)
 clear h1 h2 h3 h4 h5 h6
 go_enter Try.func18, Try.ntmps18
 go_wp2
 go_ret
 exact ⟨rfl, HB⟩
theorem loop_cells {v u w' : World} {g : Nat} {o : Obj} (k : Below u.heap.size u w') (hv : u.os = v.os ∧ u.tape = v.tape ∧ u.output = v.output ∧ u.heap = v.heap) (h : v.heap[g]? = some o) : w'.heap[g]? = some o := by
 have h' : u.heap[g]? = some o := by rw [hv.2.2.2]; exact h
 exact (k.block g (Array.getElem?_eq_some_iff.1 h').1).trans h'
set_option maxHeartbeats 4000000 in
set_option maxRecDepth 100000 in
theorem form_bad (a0_0 : Int) (a0_1 : Int) (a0_2 : Int) (A0_3 : Option Addr) (c0_3 : Nat) (l0_3 : List (List (S79))) (A0_4 : Option Addr) (c0_4 : Nat) (l0_4 : List ByteArray) (A0_5 : Option Addr) (c0_5 : Nat) (l0_5 : List Int) (A0_6 : Option Addr) (c0_6 : Nat) (l0_6 : List (S43)) (a0_7 : Int) (a0_8 : Int) (a0_9 : Int) (a0_10 : Int) (a0_11 : Int) (a1 : Int) (w : World) (h1 : 1 ≤ a0_0) (h2 : a0_0 ≤ 9) (h3 : l0_3.length ≤ 8) (h4 : l0_4.length ≤ 8) (h5 : l0_5.length ≤ 8) (h6 : l0_6.length ≤ 8) (s o l : Bool) (C24 : ∀ W, Below w.heap.size w W → Calls Try.prog 24 #[.agg #[.int .i64 a0_0, .int .i64 a0_1, .int .i64 a0_2, .slice A0_3 l0_3.length c0_3, .slice A0_4 l0_4.length c0_4, .slice A0_5 l0_5.length c0_5, .slice A0_6 l0_6.length c0_6, .int .i64 a0_7, .int .i64 a0_8, .int .i64 a0_9, .int .i64 a0_10, .int .i64 a0_11]] W fun e w' => e = .returned (.bool s) ∧ Below W.heap.size W w') (C25 : ∀ W, Below w.heap.size w W → Calls Try.prog 25 #[.agg #[.int .i64 a0_0, .int .i64 a0_1, .int .i64 a0_2, .slice A0_3 l0_3.length c0_3, .slice A0_4 l0_4.length c0_4, .slice A0_5 l0_5.length c0_5, .slice A0_6 l0_6.length c0_6, .int .i64 a0_7, .int .i64 a0_8, .int .i64 a0_9, .int .i64 a0_10, .int .i64 a0_11]] W fun e w' => e = .returned (.bool o) ∧ Below W.heap.size W w') (C26 : ∀ W, Below w.heap.size w W → Calls Try.prog 26 #[.agg #[.int .i64 a0_0, .int .i64 a0_1, .int .i64 a0_2, .slice A0_3 l0_3.length c0_3, .slice A0_4 l0_4.length c0_4, .slice A0_5 l0_5.length c0_5, .slice A0_6 l0_6.length c0_6, .int .i64 a0_7, .int .i64 a0_8, .int .i64 a0_9, .int .i64 a0_10, .int .i64 a0_11]] W fun e w' => e = .returned (.bool l) ∧ Below W.heap.size W w') (hbad : (s || !o || !l) = true) :
  Calls Try.prog 18 #[.agg #[.int .i64 a0_0, .int .i64 a0_1, .int .i64 a0_2, .slice A0_3 l0_3.length c0_3, .slice A0_4 l0_4.length c0_4, .slice A0_5 l0_5.length c0_5, .slice A0_6 l0_6.length c0_6, .int .i64 a0_7, .int .i64 a0_8, .int .i64 a0_9, .int .i64 a0_10, .int .i64 a0_11], .int .i64 a1] w fun e w' => e = .returned (.int .i64 2) ∧ Below w.heap.size w w' := by
 have hu := Try.underlying40
 have HB := Lib.hid (form_bel w (.cells #[.int .i64 a0_0, .int .i64 a0_1, .int .i64 a0_2, .slice A0_3 l0_3.length c0_3, .slice A0_4 l0_4.length c0_4, .slice A0_5 l0_5.length c0_5, .slice A0_6 l0_6.length c0_6, .int .i64 a0_7, .int .i64 a0_8, .int .i64 a0_9, .int .i64 a0_10, .int .i64 a0_11] 40 (0, 0)) (.cells #[.int .i64 a1] 3 (0, 0)))
 have H0 := Lib.hid HB
 have N0 := Lib.hid (form_node w (.cells #[.int .i64 a0_0, .int .i64 a0_1, .int .i64 a0_2, .slice A0_3 l0_3.length c0_3, .slice A0_4 l0_4.length c0_4, .slice A0_5 l0_5.length c0_5, .slice A0_6 l0_6.length c0_6, .int .i64 a0_7, .int .i64 a0_8, .int .i64 a0_9, .int .i64 a0_10, .int .i64 a0_11] 40 (0, 0)) (.cells #[.int .i64 a1] 3 (0, 0)))
 have A0 := Lib.hid (form_at w (.cells #[.int .i64 a0_0, .int .i64 a0_1, .int .i64 a0_2, .slice A0_3 l0_3.length c0_3, .slice A0_4 l0_4.length c0_4, .slice A0_5 l0_5.length c0_5, .slice A0_6 l0_6.length c0_6, .int .i64 a0_7, .int .i64 a0_8, .int .i64 a0_9, .int .i64 a0_10, .int .i64 a0_11] 40 (0, 0)) (.cells #[.int .i64 a1] 3 (0, 0)))
 have C24h := Lib.hid C24
 have C25h := Lib.hid C25
 have C26h := Lib.hid C26
 clear C24 C25 C26
 obtain ⟨m1, hm1⟩ : ∃ m : Int, (if (l0_3.length : Int) < (l0_4.length : Int) then (l0_4.length : Int) else (l0_3.length : Int)) = m := ⟨_, rfl⟩
 obtain ⟨m2, hm2⟩ : ∃ m : Int, (if m1 < (l0_5.length : Int) then (l0_5.length : Int) else m1) = m := ⟨_, rfl⟩
 have hm3 : (if l0_3.length < l0_4.length then (l0_4.length : Int) else (l0_3.length : Int)) = m1 := by rw [← hm1]; split <;> split <;> first | rfl | omega
 have b1 : decide (a0_0 < 1) = false := decide_eq_false (by omega)
 have b2 : decide (a0_0 > 9) = false := decide_eq_false (by omega)
 have b3 : decide (m2 > 8) = false := by
  refine decide_eq_false ?_
  have e1 : m1 ≤ 8 := by rw [← hm1]; split <;> omega
  have e2 : m2 ≤ 8 := by rw [← hm2]; split <;> omega
  omega
 have b4 : decide ((l0_6.length : Int) > 8) = false := decide_eq_false (by omega)
 have b5 : decide (8 < l0_6.length) = false := decide_eq_false (by omega)
 clear h1 h2 h3 h4 h5 h6
 cases s
 ·cases o
  ·go_enter Try.func18, Try.ntmps18
   go_wp2_with (first
    | (go_at_call 24; (with_reducible refine (C24h.out _ ?hb).mono ?_); (case hb => exact H0.out); rintro e w1 ⟨rfl, hb1⟩; have H1 := Lib.hid (join_below H0.out hb1 ⟨rfl, rfl, rfl, rfl⟩ (by first | exact H0.out.size | simp)); have N1 := Lib.hid (loop_cells hb1 (v := _) ⟨rfl, rfl, rfl, rfl⟩ N0.out); have A1 := Lib.hid (loop_cells hb1 ⟨rfl, rfl, rfl, rfl⟩ A0.out); have y1_0 : w1.cell? ⟨w.heap.size, 0, none⟩ = some (.int .i64 a0_0) := (blk_cell N1.out 0).trans rfl; have y1_1 : w1.cell? ⟨w.heap.size, 1, none⟩ = some (.int .i64 a0_1) := (blk_cell N1.out 1).trans rfl; have y1_2 : w1.cell? ⟨w.heap.size, 2, none⟩ = some (.int .i64 a0_2) := (blk_cell N1.out 2).trans rfl; have y1_3 : w1.cell? ⟨w.heap.size, 3, none⟩ = some (.slice A0_3 l0_3.length c0_3) := (blk_cell N1.out 3).trans rfl; have y1_4 : w1.cell? ⟨w.heap.size, 4, none⟩ = some (.slice A0_4 l0_4.length c0_4) := (blk_cell N1.out 4).trans rfl; have y1_5 : w1.cell? ⟨w.heap.size, 5, none⟩ = some (.slice A0_5 l0_5.length c0_5) := (blk_cell N1.out 5).trans rfl; have y1_6 : w1.cell? ⟨w.heap.size, 6, none⟩ = some (.slice A0_6 l0_6.length c0_6) := (blk_cell N1.out 6).trans rfl; have y1_7 : w1.cell? ⟨w.heap.size, 7, none⟩ = some (.int .i64 a0_7) := (blk_cell N1.out 7).trans rfl; have y1_8 : w1.cell? ⟨w.heap.size, 8, none⟩ = some (.int .i64 a0_8) := (blk_cell N1.out 8).trans rfl; have y1_9 : w1.cell? ⟨w.heap.size, 9, none⟩ = some (.int .i64 a0_9) := (blk_cell N1.out 9).trans rfl; have y1_10 : w1.cell? ⟨w.heap.size, 10, none⟩ = some (.int .i64 a0_10) := (blk_cell N1.out 10).trans rfl; have y1_11 : w1.cell? ⟨w.heap.size, 11, none⟩ = some (.int .i64 a0_11) := (blk_cell N1.out 11).trans rfl; clear hb1)
    | (go_at_call 25; (with_reducible refine (C25h.out _ ?hb).mono ?_); (case hb => exact H1.out); rintro e w2 ⟨rfl, hb2⟩; have H2 := Lib.hid (join_below H1.out hb2 ⟨rfl, rfl, rfl, rfl⟩ (by first | exact H1.out.size | simp)); have N2 := Lib.hid (loop_cells hb2 (v := _) ⟨rfl, rfl, rfl, rfl⟩ N1.out); have A2 := Lib.hid (loop_cells hb2 ⟨rfl, rfl, rfl, rfl⟩ A1.out); clear hb2))
   go_ret
   exact ⟨rfl, H2.out⟩
  ·obtain rfl : l = false := by simpa using hbad
   go_enter Try.func18, Try.ntmps18
   go_wp2_with (first
    | (go_at_call 24; (with_reducible refine (C24h.out _ ?hb).mono ?_); (case hb => exact H0.out); rintro e w1 ⟨rfl, hb1⟩; have H1 := Lib.hid (join_below H0.out hb1 ⟨rfl, rfl, rfl, rfl⟩ (by first | exact H0.out.size | simp)); have N1 := Lib.hid (loop_cells hb1 (v := _) ⟨rfl, rfl, rfl, rfl⟩ N0.out); have A1 := Lib.hid (loop_cells hb1 ⟨rfl, rfl, rfl, rfl⟩ A0.out); have y1_0 : w1.cell? ⟨w.heap.size, 0, none⟩ = some (.int .i64 a0_0) := (blk_cell N1.out 0).trans rfl; have y1_1 : w1.cell? ⟨w.heap.size, 1, none⟩ = some (.int .i64 a0_1) := (blk_cell N1.out 1).trans rfl; have y1_2 : w1.cell? ⟨w.heap.size, 2, none⟩ = some (.int .i64 a0_2) := (blk_cell N1.out 2).trans rfl; have y1_3 : w1.cell? ⟨w.heap.size, 3, none⟩ = some (.slice A0_3 l0_3.length c0_3) := (blk_cell N1.out 3).trans rfl; have y1_4 : w1.cell? ⟨w.heap.size, 4, none⟩ = some (.slice A0_4 l0_4.length c0_4) := (blk_cell N1.out 4).trans rfl; have y1_5 : w1.cell? ⟨w.heap.size, 5, none⟩ = some (.slice A0_5 l0_5.length c0_5) := (blk_cell N1.out 5).trans rfl; have y1_6 : w1.cell? ⟨w.heap.size, 6, none⟩ = some (.slice A0_6 l0_6.length c0_6) := (blk_cell N1.out 6).trans rfl; have y1_7 : w1.cell? ⟨w.heap.size, 7, none⟩ = some (.int .i64 a0_7) := (blk_cell N1.out 7).trans rfl; have y1_8 : w1.cell? ⟨w.heap.size, 8, none⟩ = some (.int .i64 a0_8) := (blk_cell N1.out 8).trans rfl; have y1_9 : w1.cell? ⟨w.heap.size, 9, none⟩ = some (.int .i64 a0_9) := (blk_cell N1.out 9).trans rfl; have y1_10 : w1.cell? ⟨w.heap.size, 10, none⟩ = some (.int .i64 a0_10) := (blk_cell N1.out 10).trans rfl; have y1_11 : w1.cell? ⟨w.heap.size, 11, none⟩ = some (.int .i64 a0_11) := (blk_cell N1.out 11).trans rfl; clear hb1)
    | (go_at_call 25; (with_reducible refine (C25h.out _ ?hb).mono ?_); (case hb => exact H1.out); rintro e w2 ⟨rfl, hb2⟩; have H2 := Lib.hid (join_below H1.out hb2 ⟨rfl, rfl, rfl, rfl⟩ (by first | exact H1.out.size | simp)); have N2 := Lib.hid (loop_cells hb2 (v := _) ⟨rfl, rfl, rfl, rfl⟩ N1.out); have A2 := Lib.hid (loop_cells hb2 ⟨rfl, rfl, rfl, rfl⟩ A1.out); have y2_0 : w2.cell? ⟨w.heap.size, 0, none⟩ = some (.int .i64 a0_0) := (blk_cell N2.out 0).trans rfl; have y2_1 : w2.cell? ⟨w.heap.size, 1, none⟩ = some (.int .i64 a0_1) := (blk_cell N2.out 1).trans rfl; have y2_2 : w2.cell? ⟨w.heap.size, 2, none⟩ = some (.int .i64 a0_2) := (blk_cell N2.out 2).trans rfl; have y2_3 : w2.cell? ⟨w.heap.size, 3, none⟩ = some (.slice A0_3 l0_3.length c0_3) := (blk_cell N2.out 3).trans rfl; have y2_4 : w2.cell? ⟨w.heap.size, 4, none⟩ = some (.slice A0_4 l0_4.length c0_4) := (blk_cell N2.out 4).trans rfl; have y2_5 : w2.cell? ⟨w.heap.size, 5, none⟩ = some (.slice A0_5 l0_5.length c0_5) := (blk_cell N2.out 5).trans rfl; have y2_6 : w2.cell? ⟨w.heap.size, 6, none⟩ = some (.slice A0_6 l0_6.length c0_6) := (blk_cell N2.out 6).trans rfl; have y2_7 : w2.cell? ⟨w.heap.size, 7, none⟩ = some (.int .i64 a0_7) := (blk_cell N2.out 7).trans rfl; have y2_8 : w2.cell? ⟨w.heap.size, 8, none⟩ = some (.int .i64 a0_8) := (blk_cell N2.out 8).trans rfl; have y2_9 : w2.cell? ⟨w.heap.size, 9, none⟩ = some (.int .i64 a0_9) := (blk_cell N2.out 9).trans rfl; have y2_10 : w2.cell? ⟨w.heap.size, 10, none⟩ = some (.int .i64 a0_10) := (blk_cell N2.out 10).trans rfl; have y2_11 : w2.cell? ⟨w.heap.size, 11, none⟩ = some (.int .i64 a0_11) := (blk_cell N2.out 11).trans rfl; clear hb2)
    | (go_at_call 26; (with_reducible refine (C26h.out _ ?hb).mono ?_); (case hb => exact H2.out); rintro e w3 ⟨rfl, hb3⟩; have H3 := Lib.hid (join_below H2.out hb3 ⟨rfl, rfl, rfl, rfl⟩ (by first | exact H2.out.size | simp)); have N3 := Lib.hid (loop_cells hb3 (v := _) ⟨rfl, rfl, rfl, rfl⟩ N2.out); have A3 := Lib.hid (loop_cells hb3 ⟨rfl, rfl, rfl, rfl⟩ A2.out); clear hb3))
   go_ret
   exact ⟨rfl, H3.out⟩
 ·go_enter Try.func18, Try.ntmps18
  go_wp2_with (go_at_call 24; (with_reducible refine (C24h.out _ ?hb).mono ?_); (case hb => exact H0.out); rintro e w1 ⟨rfl, hb1⟩; have H1 := Lib.hid (join_below H0.out hb1 ⟨rfl, rfl, rfl, rfl⟩ (by first | exact H0.out.size | simp)); have N1 := Lib.hid (loop_cells hb1 (v := _) ⟨rfl, rfl, rfl, rfl⟩ N0.out); have A1 := Lib.hid (loop_cells hb1 ⟨rfl, rfl, rfl, rfl⟩ A0.out); clear hb1)
  go_ret
  exact ⟨rfl, H1.out⟩
end Go.Proofs.Ytpidiibhgfjemaa.PLh
end
