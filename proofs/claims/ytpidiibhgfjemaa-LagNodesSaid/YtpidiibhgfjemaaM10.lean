/- Texts of this claim, put together by a program: PLnx2, PLnx3, PLnx. -/
import Derived.Test.YtpidiibhgfjemaaM9
section
namespace Go.Proofs.Ytpidiibhgfjemaa.PLn
open Go.Proofs.Ytpidiibhgfjemaa.PLg Go.Proofs.Ytpidiibhgfjemaa.PLh Go.Proofs.Ytpidiibhgfjemaa.PLo Go.Proofs.Ytpidiibhgfjemaa.PLi
open Go.RowKit Go.Proofs.YtpidiibhgfjemaaW.PrintWords Go.Proofs.YtpidiibhgfjemaaW.PrintLast Go.Proofs.YtpidiibhgfjemaaW.PrintMore
attribute [local go_sem] max2_int min2_int max_two min_two max_three min_three max_four min_four
set_option linter.unusedVariables false
set_option linter.unusedSimpArgs false
mutual
def rescindref36_node.j0 : Nat → Int → Bool → Int → Int → Int → List (List (S79)) → List ByteArray → List Int → List (S43) → Int → Int → Int → Int → Int → Option (Int)
 | 0, _, _, _, _, _, _, _, _, _, _, _, _, _, _ => none
 | k + 1, x1, x16, x382000, x382001, x382002, x382003, x382004, x382005, x382006, x382007, x382008, x382009, x382010, x382011 => if x16 = true then (some 12) else (if (x382003.length : Int) > 8 then (rescindref36_node.j1 k x1 true x382000 x382001 x382002 x382003 x382004 x382005 x382006 x382007 x382008 x382009 x382010 x382011) else (if (x382004.length : Int) > 8 then (rescindref36_node.j1 k x1 true x382000 x382001 x382002 x382003 x382004 x382005 x382006 x382007 x382008 x382009 x382010 x382011) else (if (x382005.length : Int) > 8 then (rescindref36_node.j1 k x1 true x382000 x382001 x382002 x382003 x382004 x382005 x382006 x382007 x382008 x382009 x382010 x382011) else (rescindref36_node.j1 k x1 (decide ((x382006.length : Int) > 8)) x382000 x382001 x382002 x382003 x382004 x382005 x382006 x382007 x382008 x382009 x382010 x382011))))
def rescindref36_node.j1 : Nat → Int → Bool → Int → Int → Int → List (List (S79)) → List ByteArray → List Int → List (S43) → Int → Int → Int → Int → Int → Option (Int)
 | 0, _, _, _, _, _, _, _, _, _, _, _, _, _, _ => none
 | k + 1, x1, x38, x382000, x382001, x382002, x382003, x382004, x382005, x382006, x382007, x382008, x382009, x382010, x382011 => if x38 = true then (some 6) else ((rescindref36_fields.f x382000 x382001 x382002 x382003 x382004 x382005 x382006 x382007 x382008 x382009 x382010 x382011).bind fun t382 => (if t382 = true then (if x382000 = 1 then (if x382001 < 0 then (rescindref36_node.j2 k x1 true x382000 x382001 x382002 x382003 x382004 x382005 x382006 x382007 x382008 x382009 x382010 x382011) else (rescindref36_node.j2 k x1 (decide (x382001 > 7)) x382000 x382001 x382002 x382003 x382004 x382005 x382006 x382007 x382008 x382009 x382010 x382011)) else (rescindref36_node.j2 k x1 false x382000 x382001 x382002 x382003 x382004 x382005 x382006 x382007 x382008 x382009 x382010 x382011)) else (some 2)))
def rescindref36_node.j2 : Nat → Int → Bool → Int → Int → Int → List (List (S79)) → List ByteArray → List Int → List (S43) → Int → Int → Int → Int → Int → Option (Int)
 | 0, _, _, _, _, _, _, _, _, _, _, _, _, _, _ => none
 | k + 1, x1, x54, x382000, x382001, x382002, x382003, x382004, x382005, x382006, x382007, x382008, x382009, x382010, x382011 => if x54 = true then (some 3) else ((rescindref36_Reads.f x382000 x382001 x382002 x382003 x382004 x382005 x382006 x382007 x382008 x382009 x382010 x382011).bind fun t383 => (rescindref36_node.l0 k x1 t383 0 x382000 x382001 x382002 x382003 x382004 x382005 x382006 x382007 x382008 x382009 x382010 x382011))
def rescindref36_node.l0 : Nat → Int → List Int → Int → Int → Int → Int → List (List (S79)) → List ByteArray → List Int → List (S43) → Int → Int → Int → Int → Int → Option (Int)
 | 0, _, _, _, _, _, _, _, _, _, _, _, _, _, _, _ => none
 | k + 1, x1, x5, x6, x382000, x382001, x382002, x382003, x382004, x382005, x382006, x382007, x382008, x382009, x382010, x382011 => if x6 < (x5.length : Int) then (if 0 ≤ x6 then (if (rd x5 x6) < 0 then (some 3) else (if (rd x5 x6) ≥ x1 then (some 3) else (rescindref36_node.l0 k x1 x5 (wrap64 (x6 + 1)) x382000 x382001 x382002 x382003 x382004 x382005 x382006 x382007 x382008 x382009 x382010 x382011))) else (none)) else (rescindref36_node.l1 k 0 x382000 x382001 x382002 x382003 x382004 x382005 x382006 x382007 x382008 x382009 x382010 x382011)
def rescindref36_node.l1 : Nat → Int → Int → Int → Int → List (List (S79)) → List ByteArray → List Int → List (S43) → Int → Int → Int → Int → Int → Option (Int)
 | 0, _, _, _, _, _, _, _, _, _, _, _, _, _ => none
 | k + 1, x7, x382000, x382001, x382002, x382003, x382004, x382005, x382006, x382007, x382008, x382009, x382010, x382011 => if x7 < (x382003.length : Int) then (if 0 ≤ x7 then ((rescindref17_Form.f k (rd_L3 x382003 x7)).bind fun t389 => (if t389 = 0 then (rescindref36_node.l1 k (wrap64 (x7 + 1)) x382000 x382001 x382002 x382003 x382004 x382005 x382006 x382007 x382008 x382009 x382010 x382011) else (some t389))) else (none)) else (some 0)
end
def rescindref36_node.f (k : Nat) (a0_0 : Int) (a0_1 : Int) (a0_2 : Int) (l0_3 : List (List (S79))) (l0_4 : List ByteArray) (l0_5 : List Int) (l0_6 : List (S43)) (a0_7 : Int) (a0_8 : Int) (a0_9 : Int) (a0_10 : Int) (a0_11 : Int) (a1 : Int) : Option (Int) := if a0_0 < 1 then (rescindref36_node.j0 k a1 true a0_0 a0_1 a0_2 l0_3 l0_4 l0_5 l0_6 a0_7 a0_8 a0_9 a0_10 a0_11) else (rescindref36_node.j0 k a1 (decide (a0_0 > 9)) a0_0 a0_1 a0_2 l0_3 l0_4 l0_5 l0_6 a0_7 a0_8 a0_9 a0_10 a0_11)
theorem rescindref36_node.mono_l : ∀ k, (∀ y0 y1 y2 y3 y4 y5 y6 y7 y8 y9 y10 y11 y12 y13, LeO (rescindref36_node.j0 k y0 y1 y2 y3 y4 y5 y6 y7 y8 y9 y10 y11 y12 y13) (rescindref36_node.j0 (k + 1) y0 y1 y2 y3 y4 y5 y6 y7 y8 y9 y10 y11 y12 y13)) ∧ (∀ y0 y1 y2 y3 y4 y5 y6 y7 y8 y9 y10 y11 y12 y13, LeO (rescindref36_node.j1 k y0 y1 y2 y3 y4 y5 y6 y7 y8 y9 y10 y11 y12 y13) (rescindref36_node.j1 (k + 1) y0 y1 y2 y3 y4 y5 y6 y7 y8 y9 y10 y11 y12 y13)) ∧ (∀ y0 y1 y2 y3 y4 y5 y6 y7 y8 y9 y10 y11 y12 y13, LeO (rescindref36_node.j2 k y0 y1 y2 y3 y4 y5 y6 y7 y8 y9 y10 y11 y12 y13) (rescindref36_node.j2 (k + 1) y0 y1 y2 y3 y4 y5 y6 y7 y8 y9 y10 y11 y12 y13)) ∧ (∀ y0 y1 y2 y3 y4 y5 y6 y7 y8 y9 y10 y11 y12 y13 y14, LeO (rescindref36_node.l0 k y0 y1 y2 y3 y4 y5 y6 y7 y8 y9 y10 y11 y12 y13 y14) (rescindref36_node.l0 (k + 1) y0 y1 y2 y3 y4 y5 y6 y7 y8 y9 y10 y11 y12 y13 y14)) ∧ (∀ y0 y1 y2 y3 y4 y5 y6 y7 y8 y9 y10 y11 y12, LeO (rescindref36_node.l1 k y0 y1 y2 y3 y4 y5 y6 y7 y8 y9 y10 y11 y12) (rescindref36_node.l1 (k + 1) y0 y1 y2 y3 y4 y5 y6 y7 y8 y9 y10 y11 y12))
 | 0 => ⟨fun _ _ _ _ _ _ _ _ _ _ _ _ _ _ r h => by simp [rescindref36_node.j0] at h, fun _ _ _ _ _ _ _ _ _ _ _ _ _ _ r h => by simp [rescindref36_node.j1] at h, fun _ _ _ _ _ _ _ _ _ _ _ _ _ _ r h => by simp [rescindref36_node.j2] at h, fun _ _ _ _ _ _ _ _ _ _ _ _ _ _ _ r h => by simp [rescindref36_node.l0] at h, fun _ _ _ _ _ _ _ _ _ _ _ _ _ r h => by simp [rescindref36_node.l1] at h⟩
 | k + 1 => by
  obtain ⟨ih0, ih1, ih2, ih3, ih4⟩ := rescindref36_node.mono_l k
  refine ⟨?_, ?_, ?_, ?_, ?_⟩
  ·intro y0 y1 y2 y3 y4 y5 y6 y7 y8 y9 y10 y11 y12 y13
   unfold rescindref36_node.j0
   repeat' first
   | (with_reducible exact ih0 _ _ _ _ _ _ _ _ _ _ _ _ _ _)
   | (with_reducible exact ih1 _ _ _ _ _ _ _ _ _ _ _ _ _ _)
   | (with_reducible exact ih2 _ _ _ _ _ _ _ _ _ _ _ _ _ _)
   | (with_reducible exact ih3 _ _ _ _ _ _ _ _ _ _ _ _ _ _ _)
   | (with_reducible exact ih4 _ _ _ _ _ _ _ _ _ _ _ _ _)
   | (with_reducible exact rescindref17_Form.mono _ _)
   | (with_reducible exact LeO.refl _)
   | (with_reducible exact LeO.none _)
   | (with_reducible refine LeO.ite ?_ ?_)
   | (with_reducible refine LeO.bind ?_ (fun _ => ?_))
   | exact ih0 _ _ _ _ _ _ _ _ _ _ _ _ _ _
   | exact ih1 _ _ _ _ _ _ _ _ _ _ _ _ _ _
   | exact ih2 _ _ _ _ _ _ _ _ _ _ _ _ _ _
   | exact ih3 _ _ _ _ _ _ _ _ _ _ _ _ _ _ _
   | exact ih4 _ _ _ _ _ _ _ _ _ _ _ _ _
   | exact rescindref17_Form.mono _ _
   | exact LeO.none _
   | refine LeO.ite ?_ ?_
   | refine LeO.bind ?_ (fun _ => ?_)
  ·intro y0 y1 y2 y3 y4 y5 y6 y7 y8 y9 y10 y11 y12 y13
   unfold rescindref36_node.j1
   repeat' first
   | (with_reducible exact ih0 _ _ _ _ _ _ _ _ _ _ _ _ _ _)
   | (with_reducible exact ih1 _ _ _ _ _ _ _ _ _ _ _ _ _ _)
   | (with_reducible exact ih2 _ _ _ _ _ _ _ _ _ _ _ _ _ _)
   | (with_reducible exact ih3 _ _ _ _ _ _ _ _ _ _ _ _ _ _ _)
   | (with_reducible exact ih4 _ _ _ _ _ _ _ _ _ _ _ _ _)
   | (with_reducible exact rescindref17_Form.mono _ _)
   | (with_reducible exact LeO.refl _)
   | (with_reducible exact LeO.none _)
   | (with_reducible refine LeO.ite ?_ ?_)
   | (with_reducible refine LeO.bind ?_ (fun _ => ?_))
   | exact ih0 _ _ _ _ _ _ _ _ _ _ _ _ _ _
   | exact ih1 _ _ _ _ _ _ _ _ _ _ _ _ _ _
   | exact ih2 _ _ _ _ _ _ _ _ _ _ _ _ _ _
   | exact ih3 _ _ _ _ _ _ _ _ _ _ _ _ _ _ _
   | exact ih4 _ _ _ _ _ _ _ _ _ _ _ _ _
   | exact rescindref17_Form.mono _ _
   | exact LeO.none _
   | refine LeO.ite ?_ ?_
   | refine LeO.bind ?_ (fun _ => ?_)
  ·intro y0 y1 y2 y3 y4 y5 y6 y7 y8 y9 y10 y11 y12 y13
   unfold rescindref36_node.j2
   repeat' first
   | (with_reducible exact ih0 _ _ _ _ _ _ _ _ _ _ _ _ _ _)
   | (with_reducible exact ih1 _ _ _ _ _ _ _ _ _ _ _ _ _ _)
   | (with_reducible exact ih2 _ _ _ _ _ _ _ _ _ _ _ _ _ _)
   | (with_reducible exact ih3 _ _ _ _ _ _ _ _ _ _ _ _ _ _ _)
   | (with_reducible exact ih4 _ _ _ _ _ _ _ _ _ _ _ _ _)
   | (with_reducible exact rescindref17_Form.mono _ _)
   | (with_reducible exact LeO.refl _)
   | (with_reducible exact LeO.none _)
   | (with_reducible refine LeO.ite ?_ ?_)
   | (with_reducible refine LeO.bind ?_ (fun _ => ?_))
   | exact ih0 _ _ _ _ _ _ _ _ _ _ _ _ _ _
   | exact ih1 _ _ _ _ _ _ _ _ _ _ _ _ _ _
   | exact ih2 _ _ _ _ _ _ _ _ _ _ _ _ _ _
   | exact ih3 _ _ _ _ _ _ _ _ _ _ _ _ _ _ _
   | exact ih4 _ _ _ _ _ _ _ _ _ _ _ _ _
   | exact rescindref17_Form.mono _ _
   | exact LeO.none _
   | refine LeO.ite ?_ ?_
   | refine LeO.bind ?_ (fun _ => ?_)
  ·intro y0 y1 y2 y3 y4 y5 y6 y7 y8 y9 y10 y11 y12 y13 y14
   unfold rescindref36_node.l0
   repeat' first
   | (with_reducible exact ih0 _ _ _ _ _ _ _ _ _ _ _ _ _ _)
   | (with_reducible exact ih1 _ _ _ _ _ _ _ _ _ _ _ _ _ _)
   | (with_reducible exact ih2 _ _ _ _ _ _ _ _ _ _ _ _ _ _)
   | (with_reducible exact ih3 _ _ _ _ _ _ _ _ _ _ _ _ _ _ _)
   | (with_reducible exact ih4 _ _ _ _ _ _ _ _ _ _ _ _ _)
   | (with_reducible exact rescindref17_Form.mono _ _)
   | (with_reducible exact LeO.refl _)
   | (with_reducible exact LeO.none _)
   | (with_reducible refine LeO.ite ?_ ?_)
   | (with_reducible refine LeO.bind ?_ (fun _ => ?_))
   | exact ih0 _ _ _ _ _ _ _ _ _ _ _ _ _ _
   | exact ih1 _ _ _ _ _ _ _ _ _ _ _ _ _ _
   | exact ih2 _ _ _ _ _ _ _ _ _ _ _ _ _ _
   | exact ih3 _ _ _ _ _ _ _ _ _ _ _ _ _ _ _
   | exact ih4 _ _ _ _ _ _ _ _ _ _ _ _ _
   | exact rescindref17_Form.mono _ _
   | exact LeO.none _
   | refine LeO.ite ?_ ?_
   | refine LeO.bind ?_ (fun _ => ?_)
  ·intro y0 y1 y2 y3 y4 y5 y6 y7 y8 y9 y10 y11 y12
   unfold rescindref36_node.l1
   repeat' first
   | (with_reducible exact ih0 _ _ _ _ _ _ _ _ _ _ _ _ _ _)
   | (with_reducible exact ih1 _ _ _ _ _ _ _ _ _ _ _ _ _ _)
   | (with_reducible exact ih2 _ _ _ _ _ _ _ _ _ _ _ _ _ _)
   | (with_reducible exact ih3 _ _ _ _ _ _ _ _ _ _ _ _ _ _ _)
   | (with_reducible exact ih4 _ _ _ _ _ _ _ _ _ _ _ _ _)
   | (with_reducible exact rescindref17_Form.mono _ _)
   | (with_reducible exact LeO.refl _)
   | (with_reducible exact LeO.none _)
   | (with_reducible refine LeO.ite ?_ ?_)
   | (with_reducible refine LeO.bind ?_ (fun _ => ?_))
   | exact ih0 _ _ _ _ _ _ _ _ _ _ _ _ _ _
   | exact ih1 _ _ _ _ _ _ _ _ _ _ _ _ _ _
   | exact ih2 _ _ _ _ _ _ _ _ _ _ _ _ _ _
   | exact ih3 _ _ _ _ _ _ _ _ _ _ _ _ _ _ _
   | exact ih4 _ _ _ _ _ _ _ _ _ _ _ _ _
   | exact rescindref17_Form.mono _ _
   | exact LeO.none _
   | refine LeO.ite ?_ ?_
   | refine LeO.bind ?_ (fun _ => ?_)
theorem rescindref36_node.mono : ∀ a0 a1 a2 a3 a4 a5 a6 a7 a8 a9 a10 a11 a12 k, LeO (rescindref36_node.f k a0 a1 a2 a3 a4 a5 a6 a7 a8 a9 a10 a11 a12) (rescindref36_node.f (k + 1) a0 a1 a2 a3 a4 a5 a6 a7 a8 a9 a10 a11 a12) := by
 intro a0 a1 a2 a3 a4 a5 a6 a7 a8 a9 a10 a11 a12 k
 obtain ⟨ih0, ih1, ih2, ih3, ih4⟩ := rescindref36_node.mono_l k
 unfold rescindref36_node.f
 repeat' first
   | (with_reducible exact ih0 _ _ _ _ _ _ _ _ _ _ _ _ _ _)
   | (with_reducible exact ih1 _ _ _ _ _ _ _ _ _ _ _ _ _ _)
   | (with_reducible exact ih2 _ _ _ _ _ _ _ _ _ _ _ _ _ _)
   | (with_reducible exact ih3 _ _ _ _ _ _ _ _ _ _ _ _ _ _ _)
   | (with_reducible exact ih4 _ _ _ _ _ _ _ _ _ _ _ _ _)
   | (with_reducible exact rescindref17_Form.mono _ _)
   | (with_reducible exact LeO.refl _)
   | (with_reducible exact LeO.none _)
   | (with_reducible refine LeO.ite ?_ ?_)
   | (with_reducible refine LeO.bind ?_ (fun _ => ?_))
   | exact ih0 _ _ _ _ _ _ _ _ _ _ _ _ _ _
   | exact ih1 _ _ _ _ _ _ _ _ _ _ _ _ _ _
   | exact ih2 _ _ _ _ _ _ _ _ _ _ _ _ _ _
   | exact ih3 _ _ _ _ _ _ _ _ _ _ _ _ _ _ _
   | exact ih4 _ _ _ _ _ _ _ _ _ _ _ _ _
   | exact rescindref17_Form.mono _ _
   | exact LeO.none _
   | refine LeO.ite ?_ ?_
   | refine LeO.bind ?_ (fun _ => ?_)
set_option maxHeartbeats 8000000 in
set_option maxRecDepth 100000 in
theorem rescindref36_node.calls (k : Nat) (a0_0 : Int) (a0_1 : Int) (a0_2 : Int) (A0_3 : Option Addr) (c0_3 : Nat) (l0_3 : List (List (S79))) (A0_4 : Option Addr) (c0_4 : Nat) (l0_4 : List ByteArray) (A0_5 : Option Addr) (c0_5 : Nat) (l0_5 : List Int) (A0_6 : Option Addr) (c0_6 : Nat) (l0_6 : List (S43)) (a0_7 : Int) (a0_8 : Int) (a0_9 : Int) (a0_10 : Int) (a0_11 : Int) (a1 : Int) (r : Int) (w : World) (hr0_3 : Kd.C (Kd.slice 79 k79) w A0_3 l0_3.length l0_3) (hc0_3 : l0_3.length ≤ c0_3) (hr0_4 : Kd.C Kd.string w A0_4 l0_4.length l0_4) (hc0_4 : l0_4.length ≤ c0_4) (hr0_5 : Kd.C (Kd.int .i64) w A0_5 l0_5.length l0_5) (hc0_5 : l0_5.length ≤ c0_5) (hr0_6 : Kd.C k43 w A0_6 l0_6.length l0_6) (hc0_6 : l0_6.length ≤ c0_6) (h : rescindref36_node.f k a0_0 a0_1 a0_2 l0_3 l0_4 l0_5 l0_6 a0_7 a0_8 a0_9 a0_10 a0_11 a1 = some r) :
  Calls Try.prog 21 #[.agg #[.int .i64 a0_0, .int .i64 a0_1, .int .i64 a0_2, .slice A0_3 l0_3.length c0_3, .slice A0_4 l0_4.length c0_4, .slice A0_5 l0_5.length c0_5, .slice A0_6 l0_6.length c0_6, .int .i64 a0_7, .int .i64 a0_8, .int .i64 a0_9, .int .i64 a0_10, .int .i64 a0_11], .int .i64 a1] w fun e w' => e = .returned (.int .i64 r) ∧ Below w.heap.size w w' := by
 have hu40 := Try.underlying40
 have HR0_3 := Aside0.mk hr0_3
 have HC0_3 := Aside0.mk hc0_3
 clear hr0_3 hc0_3
 have HR0_4 := Aside0.mk hr0_4
 have HC0_4 := Aside0.mk hc0_4
 clear hr0_4 hc0_4
 have HR0_5 := Aside0.mk hr0_5
 have HC0_5 := Aside0.mk hc0_5
 clear hr0_5 hc0_5
 have HR0_6 := Aside0.mk hr0_6
 have HC0_6 := Aside0.mk hc0_6
 clear hr0_6 hc0_6
 have HB := Aside0.mk (Below.refl w.heap.size w)
 have H : (if a0_0 < 1 then (rescindref36_node.j0 k a1 true a0_0 a0_1 a0_2 l0_3 l0_4 l0_5 l0_6 a0_7 a0_8 a0_9 a0_10 a0_11) else (rescindref36_node.j0 k a1 (decide (a0_0 > 9)) a0_0 a0_1 a0_2 l0_3 l0_4 l0_5 l0_6 a0_7 a0_8 a0_9 a0_10 a0_11)) = some r := h
 clear h
 have HC3 := Aside0.mk H
 clear H
 go_enter Try.func21, Try.ntmps21
 go_upto_region 1 with (first | ((with_reducible refine gate_dst (N := 2) rfl ?_); (try (refine gate_guard (by rfl) ?_; dsimp only)); refine box_event ?hg (N := 2) ?hd (cs := #[.int .i64 a0_0, .int .i64 a0_1, .int .i64 a0_2, .slice A0_3 l0_3.length c0_3, .slice A0_4 l0_4.length c0_4, .slice A0_5 l0_5.length c0_5, .slice A0_6 l0_6.length c0_6, .int .i64 a0_7, .int .i64 a0_8, .int .i64 a0_9, .int .i64 a0_10, .int .i64 a0_11]) (t := 40) ?hr ?_; (case hd => rfl); (case hg => rfl); (case hr => first | (go_simp; done) | (go_simp; rfl)); intro gb381 hg w4 hbox hb; have n0_ := Aside0.mk (below_step (by repeat (first | (with_reducible first | exact HB.out | apply below_alloc | apply pw_below_drewN | apply below_drew1) | exact HB.out)) hb); have n1_ := Aside0.mk (hbox); have n2_ := Aside0.mk ((by rw [hg]; exact (below_size (by repeat (first | (with_reducible first | exact HB.out | apply below_alloc | apply pw_below_drewN | apply below_drew1) | exact HB.out))) : w.heap.size ≤ gb381)); have n3_ := Aside0.mk ((by rw [hg]; exact (below_size (by repeat (first | (with_reducible first | exact HB.out | apply below_alloc | apply pw_below_drewN | apply below_drew1) | exact HB.out))) : w.heap.size ≤ gb381)); clear HB; have HB := n0_; have BK381 := n1_; have GW381 := n2_; have GE381 := n3_; clear n0_ n1_ n2_ n3_; clear hb hbox hg))
 (try simp only [Act.put, List.setIfInBounds_toArray, List.set_cons_zero, List.set_cons_succ])
 go_cut [16] (fun v16 wc => ∃ (kq : Nat) (x16_2 : Bool), v16 = .bool x16_2 ∧ Aside0 (rescindref36_node.j0 kq a1 x16_2 a0_0 a0_1 a0_2 l0_3 l0_4 l0_5 l0_6 a0_7 a0_8 a0_9 a0_10 a0_11 = some r) ∧ Aside0 (kq ≤ k) ∧ Aside0 (wc.heap[gb381]? = some (.cells #[.int .i64 a0_0, .int .i64 a0_1, .int .i64 a0_2, (.slice A0_3 l0_3.length c0_3), (.slice A0_4 l0_4.length c0_4), (.slice A0_5 l0_5.length c0_5), (.slice A0_6 l0_6.length c0_6), .int .i64 a0_7, .int .i64 a0_8, .int .i64 a0_9, .int .i64 a0_10, .int .i64 a0_11] 40 (0, 0))) ∧ Aside0 (Below w.heap.size w wc))
 case first =>
  have H := HC3.out
  clear HC3
  by_cases c5 : a0_0 < 1
  ·rw [if_pos c5] at H
   have c5b0 : decide (a0_0 < 1) = true := decide_eq_true c5
   clear c5
   (first | rw [c5b0] | (simp only [i64_w, i32_w]; rw [c5b0]) | skip)
   have H' := Aside0.mk H
   clear H
   have hcz6_0 : w4.cell? ⟨gb381, 0, none⟩ = some (.int .i64 a0_0) := (blk_cell BK381.out 0).trans rfl
   have hcz6_1 : w4.cell? ⟨gb381, 1, none⟩ = some (.int .i64 a0_1) := (blk_cell BK381.out 1).trans rfl
   have hcz6_2 : w4.cell? ⟨gb381, 2, none⟩ = some (.int .i64 a0_2) := (blk_cell BK381.out 2).trans rfl
   have hcz6_3 : w4.cell? ⟨gb381, 3, none⟩ = some (.slice A0_3 l0_3.length c0_3) := (blk_cell BK381.out 3).trans rfl
   have hcz6_4 : w4.cell? ⟨gb381, 4, none⟩ = some (.slice A0_4 l0_4.length c0_4) := (blk_cell BK381.out 4).trans rfl
   have hcz6_5 : w4.cell? ⟨gb381, 5, none⟩ = some (.slice A0_5 l0_5.length c0_5) := (blk_cell BK381.out 5).trans rfl
   have hcz6_6 : w4.cell? ⟨gb381, 6, none⟩ = some (.slice A0_6 l0_6.length c0_6) := (blk_cell BK381.out 6).trans rfl
   have hcz6_7 : w4.cell? ⟨gb381, 7, none⟩ = some (.int .i64 a0_7) := (blk_cell BK381.out 7).trans rfl
   have hcz6_8 : w4.cell? ⟨gb381, 8, none⟩ = some (.int .i64 a0_8) := (blk_cell BK381.out 8).trans rfl
   have hcz6_9 : w4.cell? ⟨gb381, 9, none⟩ = some (.int .i64 a0_9) := (blk_cell BK381.out 9).trans rfl
   have hcz6_10 : w4.cell? ⟨gb381, 10, none⟩ = some (.int .i64 a0_10) := (blk_cell BK381.out 10).trans rfl
   have hcz6_11 : w4.cell? ⟨gb381, 11, none⟩ = some (.int .i64 a0_11) := (blk_cell BK381.out 11).trans rfl
   have hfz6_0 := blk_frozen BK381.out 0
   have hfz6_1 := blk_frozen BK381.out 1
   have hfz6_2 := blk_frozen BK381.out 2
   have hfz6_3 := blk_frozen BK381.out 3
   have hfz6_4 := blk_frozen BK381.out 4
   have hfz6_5 := blk_frozen BK381.out 5
   have hfz6_6 := blk_frozen BK381.out 6
   have hfz6_7 := blk_frozen BK381.out 7
   have hfz6_8 := blk_frozen BK381.out 8
   have hfz6_9 := blk_frozen BK381.out 9
   have hfz6_10 := blk_frozen BK381.out 10
   have hfz6_11 := blk_frozen BK381.out 11
   go_wp2
   go_meet
   case rel => exact ⟨_, (true), (by first | rfl | (simp; done) | (simp [*]; done)), H', ⟨by first | omega | exact Nat.le_refl _⟩, ⟨by (with_reducible repeat (first | refine blk_drewN ?_ _ | refine blk_drew ?_ | refine blk_alloc ?_ _)); exact BK381.out⟩, ⟨by repeat (first | (with_reducible first | exact HB.out | apply below_alloc | apply pw_below_drewN | apply below_drew1 | refine below_set ?_ GE381.out) | exact HB.out)⟩⟩
  ·rw [if_neg c5] at H
   have c5b0 : decide (a0_0 < 1) = false := decide_eq_false c5
   clear c5
   (first | rw [c5b0] | (simp only [i64_w, i32_w]; rw [c5b0]) | skip)
   have H' := Aside0.mk H
   clear H
   have hcz7_0 : w4.cell? ⟨gb381, 0, none⟩ = some (.int .i64 a0_0) := (blk_cell BK381.out 0).trans rfl
   have hcz7_1 : w4.cell? ⟨gb381, 1, none⟩ = some (.int .i64 a0_1) := (blk_cell BK381.out 1).trans rfl
   have hcz7_2 : w4.cell? ⟨gb381, 2, none⟩ = some (.int .i64 a0_2) := (blk_cell BK381.out 2).trans rfl
   have hcz7_3 : w4.cell? ⟨gb381, 3, none⟩ = some (.slice A0_3 l0_3.length c0_3) := (blk_cell BK381.out 3).trans rfl
   have hcz7_4 : w4.cell? ⟨gb381, 4, none⟩ = some (.slice A0_4 l0_4.length c0_4) := (blk_cell BK381.out 4).trans rfl
   have hcz7_5 : w4.cell? ⟨gb381, 5, none⟩ = some (.slice A0_5 l0_5.length c0_5) := (blk_cell BK381.out 5).trans rfl
   have hcz7_6 : w4.cell? ⟨gb381, 6, none⟩ = some (.slice A0_6 l0_6.length c0_6) := (blk_cell BK381.out 6).trans rfl
   have hcz7_7 : w4.cell? ⟨gb381, 7, none⟩ = some (.int .i64 a0_7) := (blk_cell BK381.out 7).trans rfl
   have hcz7_8 : w4.cell? ⟨gb381, 8, none⟩ = some (.int .i64 a0_8) := (blk_cell BK381.out 8).trans rfl
   have hcz7_9 : w4.cell? ⟨gb381, 9, none⟩ = some (.int .i64 a0_9) := (blk_cell BK381.out 9).trans rfl
   have hcz7_10 : w4.cell? ⟨gb381, 10, none⟩ = some (.int .i64 a0_10) := (blk_cell BK381.out 10).trans rfl
   have hcz7_11 : w4.cell? ⟨gb381, 11, none⟩ = some (.int .i64 a0_11) := (blk_cell BK381.out 11).trans rfl
   have hfz7_0 := blk_frozen BK381.out 0
   have hfz7_1 := blk_frozen BK381.out 1
   have hfz7_2 := blk_frozen BK381.out 2
   have hfz7_3 := blk_frozen BK381.out 3
   have hfz7_4 := blk_frozen BK381.out 4
   have hfz7_5 := blk_frozen BK381.out 5
   have hfz7_6 := blk_frozen BK381.out 6
   have hfz7_7 := blk_frozen BK381.out 7
   have hfz7_8 := blk_frozen BK381.out 8
   have hfz7_9 := blk_frozen BK381.out 9
   have hfz7_10 := blk_frozen BK381.out 10
   have hfz7_11 := blk_frozen BK381.out 11
   go_wp2
   go_meet
   case rel => exact ⟨_, (decide (a0_0 > 9)), (by first | rfl | (simp; done) | (simp [*]; done)), H', ⟨by first | omega | exact Nat.le_refl _⟩, ⟨by (with_reducible repeat (first | refine blk_drewN ?_ _ | refine blk_drew ?_ | refine blk_alloc ?_ _)); exact BK381.out⟩, ⟨by repeat (first | (with_reducible first | exact HB.out | apply below_alloc | apply pw_below_drewN | apply below_drew1 | refine below_set ?_ GE381.out) | exact HB.out)⟩⟩
 case rest =>
  clear HC3
  try clear c2
  try clear p2
  try clear c5
  try clear c5b0
  try clear hcz6_0
  try clear hcz6_1
  try clear hcz6_10
  try clear hcz6_11
  try clear hcz6_2
  try clear hcz6_3
  try clear hcz6_4
  try clear hcz6_5
  try clear hcz6_6
  try clear hcz6_7
  try clear hcz6_8
  try clear hcz6_9
  try clear hcz7_0
  try clear hcz7_1
  try clear hcz7_10
  try clear hcz7_11
  try clear hcz7_2
  try clear hcz7_3
  try clear hcz7_4
  try clear hcz7_5
  try clear hcz7_6
  try clear hcz7_7
  try clear hcz7_8
  try clear hcz7_9
  try clear hfz6_0
  try clear hfz6_1
  try clear hfz6_10
  try clear hfz6_11
  try clear hfz6_2
  try clear hfz6_3
  try clear hfz6_4
  try clear hfz6_5
  try clear hfz6_6
  try clear hfz6_7
  try clear hfz6_8
  try clear hfz6_9
  try clear hfz7_0
  try clear hfz7_1
  try clear hfz7_10
  try clear hfz7_11
  try clear hfz7_2
  try clear hfz7_3
  try clear hfz7_4
  try clear hfz7_5
  try clear hfz7_6
  try clear hfz7_7
  try clear hfz7_8
  try clear hfz7_9
  obtain ⟨kq, x16_2, rfl, HA, HJ2, BK381, HB⟩ := hcut
  cases kq with
  | zero => exact absurd HA.out (by simp [rescindref36_node.j0])
  | succ kj2 =>
   have H := HA.out
   clear HA
   simp only [rescindref36_node.j0] at H
   by_cases c8 : x16_2 = true
   ·subst c8
    have H1 : (some 12) = some r := by rw [if_pos rfl] at H; exact H
    clear H
    have H := H1
    clear H1
    obtain rfl := Option.some.inj H
    go_wp2
    go_ret
    exact ⟨by first | rfl | (simp [errW_none, errW_some] <;> rfl) | (simp [*, errW_none, errW_some] <;> rfl), by repeat (first | (with_reducible first | exact HB.out | apply below_alloc | apply pw_below_drewN | apply below_drew1 | refine below_set ?_ GE381.out) | exact HB.out)⟩
   ·replace c8 := Bool.eq_false_iff.mpr c8
    subst c8
    have H1 : (if (l0_3.length : Int) > 8 then (rescindref36_node.j1 kj2 a1 true a0_0 a0_1 a0_2 l0_3 l0_4 l0_5 l0_6 a0_7 a0_8 a0_9 a0_10 a0_11) else (if (l0_4.length : Int) > 8 then (rescindref36_node.j1 kj2 a1 true a0_0 a0_1 a0_2 l0_3 l0_4 l0_5 l0_6 a0_7 a0_8 a0_9 a0_10 a0_11) else (if (l0_5.length : Int) > 8 then (rescindref36_node.j1 kj2 a1 true a0_0 a0_1 a0_2 l0_3 l0_4 l0_5 l0_6 a0_7 a0_8 a0_9 a0_10 a0_11) else (rescindref36_node.j1 kj2 a1 (decide ((l0_6.length : Int) > 8)) a0_0 a0_1 a0_2 l0_3 l0_4 l0_5 l0_6 a0_7 a0_8 a0_9 a0_10 a0_11)))) = some r := by rw [if_neg (show ¬ (false = true) by decide)] at H; exact H
    clear H
    have H := H1
    clear H1
    have HC9 := Aside0.mk H
    clear H
    go_upto_region 3 with (fail)
    go_cut [38] (fun v38 wc => ∃ (kq : Nat) (x38_8 : Bool), v38 = .bool x38_8 ∧ Aside0 (rescindref36_node.j1 kq a1 x38_8 a0_0 a0_1 a0_2 l0_3 l0_4 l0_5 l0_6 a0_7 a0_8 a0_9 a0_10 a0_11 = some r) ∧ Aside0 (kq ≤ kj2) ∧ Aside0 (wc.heap[gb381]? = some (.cells #[.int .i64 a0_0, .int .i64 a0_1, .int .i64 a0_2, (.slice A0_3 l0_3.length c0_3), (.slice A0_4 l0_4.length c0_4), (.slice A0_5 l0_5.length c0_5), (.slice A0_6 l0_6.length c0_6), .int .i64 a0_7, .int .i64 a0_8, .int .i64 a0_9, .int .i64 a0_10, .int .i64 a0_11] 40 (0, 0))) ∧ Aside0 (Below w.heap.size w wc))
    case first =>
     have H := HC9.out
     clear HC9
     by_cases c10 : (l0_3.length : Int) > 8
     ·rw [if_pos c10] at H
      have c10b0 : decide (8 < (l0_3.length : Int)) = true := decide_eq_true c10
      have c10b1 : decide (8 < l0_3.length) = true := decide_eq_true (by omega)
      clear c10
      (first | rw [c10b0] | (simp only [i64_w, i32_w]; rw [c10b0]) | skip)
      have H' := Aside0.mk H
      clear H
      have hcz11_0 : wc.cell? ⟨gb381, 0, none⟩ = some (.int .i64 a0_0) := (blk_cell BK381.out 0).trans rfl
      have hcz11_1 : wc.cell? ⟨gb381, 1, none⟩ = some (.int .i64 a0_1) := (blk_cell BK381.out 1).trans rfl
      have hcz11_2 : wc.cell? ⟨gb381, 2, none⟩ = some (.int .i64 a0_2) := (blk_cell BK381.out 2).trans rfl
      have hcz11_3 : wc.cell? ⟨gb381, 3, none⟩ = some (.slice A0_3 l0_3.length c0_3) := (blk_cell BK381.out 3).trans rfl
      have hcz11_4 : wc.cell? ⟨gb381, 4, none⟩ = some (.slice A0_4 l0_4.length c0_4) := (blk_cell BK381.out 4).trans rfl
      have hcz11_5 : wc.cell? ⟨gb381, 5, none⟩ = some (.slice A0_5 l0_5.length c0_5) := (blk_cell BK381.out 5).trans rfl
      have hcz11_6 : wc.cell? ⟨gb381, 6, none⟩ = some (.slice A0_6 l0_6.length c0_6) := (blk_cell BK381.out 6).trans rfl
      have hcz11_7 : wc.cell? ⟨gb381, 7, none⟩ = some (.int .i64 a0_7) := (blk_cell BK381.out 7).trans rfl
      have hcz11_8 : wc.cell? ⟨gb381, 8, none⟩ = some (.int .i64 a0_8) := (blk_cell BK381.out 8).trans rfl
      have hcz11_9 : wc.cell? ⟨gb381, 9, none⟩ = some (.int .i64 a0_9) := (blk_cell BK381.out 9).trans rfl
      have hcz11_10 : wc.cell? ⟨gb381, 10, none⟩ = some (.int .i64 a0_10) := (blk_cell BK381.out 10).trans rfl
      have hcz11_11 : wc.cell? ⟨gb381, 11, none⟩ = some (.int .i64 a0_11) := (blk_cell BK381.out 11).trans rfl
      have hfz11_0 := blk_frozen BK381.out 0
      have hfz11_1 := blk_frozen BK381.out 1
      have hfz11_2 := blk_frozen BK381.out 2
      have hfz11_3 := blk_frozen BK381.out 3
      have hfz11_4 := blk_frozen BK381.out 4
      have hfz11_5 := blk_frozen BK381.out 5
      have hfz11_6 := blk_frozen BK381.out 6
      have hfz11_7 := blk_frozen BK381.out 7
      have hfz11_8 := blk_frozen BK381.out 8
      have hfz11_9 := blk_frozen BK381.out 9
      have hfz11_10 := blk_frozen BK381.out 10
      have hfz11_11 := blk_frozen BK381.out 11
      go_wp2
      go_meet
      case rel => exact ⟨_, (true), (by first | rfl | (simp; done) | (simp [*]; done)), H', ⟨by have := HJ2.out; first | omega | exact Nat.le_refl _⟩, ⟨by (with_reducible repeat (first | refine blk_drewN ?_ _ | refine blk_drew ?_ | refine blk_alloc ?_ _)); exact BK381.out⟩, ⟨by repeat (first | (with_reducible first | exact HB.out | apply below_alloc | apply pw_below_drewN | apply below_drew1 | refine below_set ?_ GE381.out) | exact HB.out)⟩⟩
     ·rw [if_neg c10] at H
      have c10b0 : decide (8 < (l0_3.length : Int)) = false := decide_eq_false c10
      have c10b1 : decide (8 < l0_3.length) = false := decide_eq_false (by omega)
      clear c10
      (first | rw [c10b0] | (simp only [i64_w, i32_w]; rw [c10b0]) | skip)
      by_cases c12 : (l0_4.length : Int) > 8
      ·rw [if_pos c12] at H
       have c12b0 : decide (8 < (l0_4.length : Int)) = true := decide_eq_true c12
       have c12b1 : decide (8 < l0_4.length) = true := decide_eq_true (by omega)
       clear c12
       have H' := Aside0.mk H
       clear H
       have hcz13_0 : wc.cell? ⟨gb381, 0, none⟩ = some (.int .i64 a0_0) := (blk_cell BK381.out 0).trans rfl
       have hcz13_1 : wc.cell? ⟨gb381, 1, none⟩ = some (.int .i64 a0_1) := (blk_cell BK381.out 1).trans rfl
       have hcz13_2 : wc.cell? ⟨gb381, 2, none⟩ = some (.int .i64 a0_2) := (blk_cell BK381.out 2).trans rfl
       have hcz13_3 : wc.cell? ⟨gb381, 3, none⟩ = some (.slice A0_3 l0_3.length c0_3) := (blk_cell BK381.out 3).trans rfl
       have hcz13_4 : wc.cell? ⟨gb381, 4, none⟩ = some (.slice A0_4 l0_4.length c0_4) := (blk_cell BK381.out 4).trans rfl
       have hcz13_5 : wc.cell? ⟨gb381, 5, none⟩ = some (.slice A0_5 l0_5.length c0_5) := (blk_cell BK381.out 5).trans rfl
       have hcz13_6 : wc.cell? ⟨gb381, 6, none⟩ = some (.slice A0_6 l0_6.length c0_6) := (blk_cell BK381.out 6).trans rfl
       have hcz13_7 : wc.cell? ⟨gb381, 7, none⟩ = some (.int .i64 a0_7) := (blk_cell BK381.out 7).trans rfl
       have hcz13_8 : wc.cell? ⟨gb381, 8, none⟩ = some (.int .i64 a0_8) := (blk_cell BK381.out 8).trans rfl
       have hcz13_9 : wc.cell? ⟨gb381, 9, none⟩ = some (.int .i64 a0_9) := (blk_cell BK381.out 9).trans rfl
       have hcz13_10 : wc.cell? ⟨gb381, 10, none⟩ = some (.int .i64 a0_10) := (blk_cell BK381.out 10).trans rfl
       have hcz13_11 : wc.cell? ⟨gb381, 11, none⟩ = some (.int .i64 a0_11) := (blk_cell BK381.out 11).trans rfl
       have hfz13_0 := blk_frozen BK381.out 0
       have hfz13_1 := blk_frozen BK381.out 1
       have hfz13_2 := blk_frozen BK381.out 2
       have hfz13_3 := blk_frozen BK381.out 3
       have hfz13_4 := blk_frozen BK381.out 4
       have hfz13_5 := blk_frozen BK381.out 5
       have hfz13_6 := blk_frozen BK381.out 6
       have hfz13_7 := blk_frozen BK381.out 7
       have hfz13_8 := blk_frozen BK381.out 8
       have hfz13_9 := blk_frozen BK381.out 9
       have hfz13_10 := blk_frozen BK381.out 10
       have hfz13_11 := blk_frozen BK381.out 11
       go_wp2
       go_meet
       case rel => exact ⟨_, (true), (by first | rfl | (simp; done) | (simp [*]; done)), H', ⟨by have := HJ2.out; first | omega | exact Nat.le_refl _⟩, ⟨by (with_reducible repeat (first | refine blk_drewN ?_ _ | refine blk_drew ?_ | refine blk_alloc ?_ _)); exact BK381.out⟩, ⟨by repeat (first | (with_reducible first | exact HB.out | apply below_alloc | apply pw_below_drewN | apply below_drew1 | refine below_set ?_ GE381.out) | exact HB.out)⟩⟩
      ·rw [if_neg c12] at H
       have c12b0 : decide (8 < (l0_4.length : Int)) = false := decide_eq_false c12
       have c12b1 : decide (8 < l0_4.length) = false := decide_eq_false (by omega)
       clear c12
       by_cases c14 : (l0_5.length : Int) > 8
       ·rw [if_pos c14] at H
        have c14b0 : decide (8 < (l0_5.length : Int)) = true := decide_eq_true c14
        have c14b1 : decide (8 < l0_5.length) = true := decide_eq_true (by omega)
        clear c14
        have H' := Aside0.mk H
        clear H
        have hcz15_0 : wc.cell? ⟨gb381, 0, none⟩ = some (.int .i64 a0_0) := (blk_cell BK381.out 0).trans rfl
        have hcz15_1 : wc.cell? ⟨gb381, 1, none⟩ = some (.int .i64 a0_1) := (blk_cell BK381.out 1).trans rfl
        have hcz15_2 : wc.cell? ⟨gb381, 2, none⟩ = some (.int .i64 a0_2) := (blk_cell BK381.out 2).trans rfl
        have hcz15_3 : wc.cell? ⟨gb381, 3, none⟩ = some (.slice A0_3 l0_3.length c0_3) := (blk_cell BK381.out 3).trans rfl
        have hcz15_4 : wc.cell? ⟨gb381, 4, none⟩ = some (.slice A0_4 l0_4.length c0_4) := (blk_cell BK381.out 4).trans rfl
        have hcz15_5 : wc.cell? ⟨gb381, 5, none⟩ = some (.slice A0_5 l0_5.length c0_5) := (blk_cell BK381.out 5).trans rfl
        have hcz15_6 : wc.cell? ⟨gb381, 6, none⟩ = some (.slice A0_6 l0_6.length c0_6) := (blk_cell BK381.out 6).trans rfl
        have hcz15_7 : wc.cell? ⟨gb381, 7, none⟩ = some (.int .i64 a0_7) := (blk_cell BK381.out 7).trans rfl
        have hcz15_8 : wc.cell? ⟨gb381, 8, none⟩ = some (.int .i64 a0_8) := (blk_cell BK381.out 8).trans rfl
        have hcz15_9 : wc.cell? ⟨gb381, 9, none⟩ = some (.int .i64 a0_9) := (blk_cell BK381.out 9).trans rfl
        have hcz15_10 : wc.cell? ⟨gb381, 10, none⟩ = some (.int .i64 a0_10) := (blk_cell BK381.out 10).trans rfl
        have hcz15_11 : wc.cell? ⟨gb381, 11, none⟩ = some (.int .i64 a0_11) := (blk_cell BK381.out 11).trans rfl
        have hfz15_0 := blk_frozen BK381.out 0
        have hfz15_1 := blk_frozen BK381.out 1
        have hfz15_2 := blk_frozen BK381.out 2
        have hfz15_3 := blk_frozen BK381.out 3
        have hfz15_4 := blk_frozen BK381.out 4
        have hfz15_5 := blk_frozen BK381.out 5
        have hfz15_6 := blk_frozen BK381.out 6
        have hfz15_7 := blk_frozen BK381.out 7
        have hfz15_8 := blk_frozen BK381.out 8
        have hfz15_9 := blk_frozen BK381.out 9
        have hfz15_10 := blk_frozen BK381.out 10
        have hfz15_11 := blk_frozen BK381.out 11
        go_wp2
        go_meet
        case rel => exact ⟨_, (true), (by first | rfl | (simp; done) | (simp [*]; done)), H', ⟨by have := HJ2.out; first | omega | exact Nat.le_refl _⟩, ⟨by (with_reducible repeat (first | refine blk_drewN ?_ _ | refine blk_drew ?_ | refine blk_alloc ?_ _)); exact BK381.out⟩, ⟨by repeat (first | (with_reducible first | exact HB.out | apply below_alloc | apply pw_below_drewN | apply below_drew1 | refine below_set ?_ GE381.out) | exact HB.out)⟩⟩
       ·rw [if_neg c14] at H
        have c14b0 : decide (8 < (l0_5.length : Int)) = false := decide_eq_false c14
        have c14b1 : decide (8 < l0_5.length) = false := decide_eq_false (by omega)
        clear c14
        have H' := Aside0.mk H
        clear H
        have hcz16_0 : wc.cell? ⟨gb381, 0, none⟩ = some (.int .i64 a0_0) := (blk_cell BK381.out 0).trans rfl
        have hcz16_1 : wc.cell? ⟨gb381, 1, none⟩ = some (.int .i64 a0_1) := (blk_cell BK381.out 1).trans rfl
        have hcz16_2 : wc.cell? ⟨gb381, 2, none⟩ = some (.int .i64 a0_2) := (blk_cell BK381.out 2).trans rfl
        have hcz16_3 : wc.cell? ⟨gb381, 3, none⟩ = some (.slice A0_3 l0_3.length c0_3) := (blk_cell BK381.out 3).trans rfl
        have hcz16_4 : wc.cell? ⟨gb381, 4, none⟩ = some (.slice A0_4 l0_4.length c0_4) := (blk_cell BK381.out 4).trans rfl
        have hcz16_5 : wc.cell? ⟨gb381, 5, none⟩ = some (.slice A0_5 l0_5.length c0_5) := (blk_cell BK381.out 5).trans rfl
        have hcz16_6 : wc.cell? ⟨gb381, 6, none⟩ = some (.slice A0_6 l0_6.length c0_6) := (blk_cell BK381.out 6).trans rfl
        have hcz16_7 : wc.cell? ⟨gb381, 7, none⟩ = some (.int .i64 a0_7) := (blk_cell BK381.out 7).trans rfl
        have hcz16_8 : wc.cell? ⟨gb381, 8, none⟩ = some (.int .i64 a0_8) := (blk_cell BK381.out 8).trans rfl
        have hcz16_9 : wc.cell? ⟨gb381, 9, none⟩ = some (.int .i64 a0_9) := (blk_cell BK381.out 9).trans rfl
        have hcz16_10 : wc.cell? ⟨gb381, 10, none⟩ = some (.int .i64 a0_10) := (blk_cell BK381.out 10).trans rfl
        have hcz16_11 : wc.cell? ⟨gb381, 11, none⟩ = some (.int .i64 a0_11) := (blk_cell BK381.out 11).trans rfl
        have hfz16_0 := blk_frozen BK381.out 0
        have hfz16_1 := blk_frozen BK381.out 1
        have hfz16_2 := blk_frozen BK381.out 2
        have hfz16_3 := blk_frozen BK381.out 3
        have hfz16_4 := blk_frozen BK381.out 4
        have hfz16_5 := blk_frozen BK381.out 5
        have hfz16_6 := blk_frozen BK381.out 6
        have hfz16_7 := blk_frozen BK381.out 7
        have hfz16_8 := blk_frozen BK381.out 8
        have hfz16_9 := blk_frozen BK381.out 9
        have hfz16_10 := blk_frozen BK381.out 10
        have hfz16_11 := blk_frozen BK381.out 11
        go_wp2
        go_meet
        case rel => exact ⟨_, (decide ((l0_6.length : Int) > 8)), (by first | rfl | (simp; done) | (simp [*]; done)), H', ⟨by have := HJ2.out; first | omega | exact Nat.le_refl _⟩, ⟨by (with_reducible repeat (first | refine blk_drewN ?_ _ | refine blk_drew ?_ | refine blk_alloc ?_ _)); exact BK381.out⟩, ⟨by repeat (first | (with_reducible first | exact HB.out | apply below_alloc | apply pw_below_drewN | apply below_drew1 | refine below_set ?_ GE381.out) | exact HB.out)⟩⟩
    case rest =>
     clear HC9
     try clear c1
     try clear c2
     try clear p2
     try clear c5
     try clear c5b0
     try clear c8
     try clear c10
     try clear c10b0
     try clear c10b1
     try clear c12
     try clear c12b0
     try clear c12b1
     try clear c14
     try clear c14b0
     try clear c14b1
     try clear hcz11_0
     try clear hcz11_1
     try clear hcz11_10
     try clear hcz11_11
     try clear hcz11_2
     try clear hcz11_3
     try clear hcz11_4
     try clear hcz11_5
     try clear hcz11_6
     try clear hcz11_7
     try clear hcz11_8
     try clear hcz11_9
     try clear hcz13_0
     try clear hcz13_1
     try clear hcz13_10
     try clear hcz13_11
     try clear hcz13_2
     try clear hcz13_3
     try clear hcz13_4
     try clear hcz13_5
     try clear hcz13_6
     try clear hcz13_7
     try clear hcz13_8
     try clear hcz13_9
     try clear hcz15_0
     try clear hcz15_1
     try clear hcz15_10
     try clear hcz15_11
     try clear hcz15_2
     try clear hcz15_3
     try clear hcz15_4
     try clear hcz15_5
     try clear hcz15_6
     try clear hcz15_7
     try clear hcz15_8
     try clear hcz15_9
     try clear hcz16_0
     try clear hcz16_1
     try clear hcz16_10
     try clear hcz16_11
     try clear hcz16_2
     try clear hcz16_3
     try clear hcz16_4
     try clear hcz16_5
     try clear hcz16_6
     try clear hcz16_7
     try clear hcz16_8
     try clear hcz16_9
     try clear hcz6_0
     try clear hcz6_1
     try clear hcz6_10
     try clear hcz6_11
     try clear hcz6_2
     try clear hcz6_3
     try clear hcz6_4
     try clear hcz6_5
     try clear hcz6_6
     try clear hcz6_7
     try clear hcz6_8
     try clear hcz6_9
     try clear hcz7_0
     try clear hcz7_1
     try clear hcz7_10
     try clear hcz7_11
     try clear hcz7_2
     try clear hcz7_3
     try clear hcz7_4
     try clear hcz7_5
     try clear hcz7_6
     try clear hcz7_7
     try clear hcz7_8
     try clear hcz7_9
     try clear hfz11_0
     try clear hfz11_1
     try clear hfz11_10
     try clear hfz11_11
     try clear hfz11_2
     try clear hfz11_3
     try clear hfz11_4
     try clear hfz11_5
     try clear hfz11_6
     try clear hfz11_7
     try clear hfz11_8
     try clear hfz11_9
     try clear hfz13_0
     try clear hfz13_1
     try clear hfz13_10
     try clear hfz13_11
     try clear hfz13_2
     try clear hfz13_3
     try clear hfz13_4
     try clear hfz13_5
     try clear hfz13_6
     try clear hfz13_7
     try clear hfz13_8
     try clear hfz13_9
     try clear hfz15_0
     try clear hfz15_1
     try clear hfz15_10
     try clear hfz15_11
     try clear hfz15_2
     try clear hfz15_3
     try clear hfz15_4
     try clear hfz15_5
     try clear hfz15_6
     try clear hfz15_7
     try clear hfz15_8
     try clear hfz15_9
     try clear hfz16_0
     try clear hfz16_1
     try clear hfz16_10
     try clear hfz16_11
     try clear hfz16_2
     try clear hfz16_3
     try clear hfz16_4
     try clear hfz16_5
     try clear hfz16_6
     try clear hfz16_7
     try clear hfz16_8
     try clear hfz16_9
     try clear hfz6_0
     try clear hfz6_1
     try clear hfz6_10
     try clear hfz6_11
     try clear hfz6_2
     try clear hfz6_3
     try clear hfz6_4
     try clear hfz6_5
     try clear hfz6_6
     try clear hfz6_7
     try clear hfz6_8
     try clear hfz6_9
     try clear hfz7_0
     try clear hfz7_1
     try clear hfz7_10
     try clear hfz7_11
     try clear hfz7_2
     try clear hfz7_3
     try clear hfz7_4
     try clear hfz7_5
     try clear hfz7_6
     try clear hfz7_7
     try clear hfz7_8
     try clear hfz7_9
     try clear p2
     obtain ⟨kq, x38_8, rfl, HA, HJ8, BK381, HB⟩ := hcut
     cases kq with
     | zero => exact absurd HA.out (by simp [rescindref36_node.j1])
     | succ kj8 =>
      have H := HA.out
      clear HA
      simp only [rescindref36_node.j1] at H
      by_cases c17 : x38_8 = true
      ·subst c17
       have H1 : (some 6) = some r := by rw [if_pos rfl] at H; exact H
       clear H
       have H := H1
       clear H1
       obtain rfl := Option.some.inj H
       go_wp2
       go_ret
       exact ⟨by first | rfl | (simp [errW_none, errW_some] <;> rfl) | (simp [*, errW_none, errW_some] <;> rfl), by repeat (first | (with_reducible first | exact HB.out | apply below_alloc | apply pw_below_drewN | apply below_drew1 | refine below_set ?_ GE381.out) | exact HB.out)⟩
      ·replace c17 := Bool.eq_false_iff.mpr c17
       subst c17
       have H1 : ((rescindref36_fields.f a0_0 a0_1 a0_2 l0_3 l0_4 l0_5 l0_6 a0_7 a0_8 a0_9 a0_10 a0_11).bind fun t382 => (if t382 = true then (if a0_0 = 1 then (if a0_1 < 0 then (rescindref36_node.j2 kj8 a1 true a0_0 a0_1 a0_2 l0_3 l0_4 l0_5 l0_6 a0_7 a0_8 a0_9 a0_10 a0_11) else (rescindref36_node.j2 kj8 a1 (decide (a0_1 > 7)) a0_0 a0_1 a0_2 l0_3 l0_4 l0_5 l0_6 a0_7 a0_8 a0_9 a0_10 a0_11)) else (rescindref36_node.j2 kj8 a1 false a0_0 a0_1 a0_2 l0_3 l0_4 l0_5 l0_6 a0_7 a0_8 a0_9 a0_10 a0_11)) else (some 2))) = some r := by rw [if_neg (show ¬ (false = true) by decide)] at H; exact H
       clear H
       have H := H1
       clear H1
       replace H := Option.bind_eq_some_iff.mp H
       obtain ⟨t382, A180, H⟩ := H
       replace H : (if t382 = true then (if a0_0 = 1 then (if a0_1 < 0 then (rescindref36_node.j2 kj8 a1 true a0_0 a0_1 a0_2 l0_3 l0_4 l0_5 l0_6 a0_7 a0_8 a0_9 a0_10 a0_11) else (rescindref36_node.j2 kj8 a1 (decide (a0_1 > 7)) a0_0 a0_1 a0_2 l0_3 l0_4 l0_5 l0_6 a0_7 a0_8 a0_9 a0_10 a0_11)) else (rescindref36_node.j2 kj8 a1 false a0_0 a0_1 a0_2 l0_3 l0_4 l0_5 l0_6 a0_7 a0_8 a0_9 a0_10 a0_11)) else (some 2)) = some r := H
       have A18 := Aside0.mk A180
       clear A180
       by_cases c19 : t382 = true
       ·subst c19
        have H1 : (if a0_0 = 1 then (if a0_1 < 0 then (rescindref36_node.j2 kj8 a1 true a0_0 a0_1 a0_2 l0_3 l0_4 l0_5 l0_6 a0_7 a0_8 a0_9 a0_10 a0_11) else (rescindref36_node.j2 kj8 a1 (decide (a0_1 > 7)) a0_0 a0_1 a0_2 l0_3 l0_4 l0_5 l0_6 a0_7 a0_8 a0_9 a0_10 a0_11)) else (rescindref36_node.j2 kj8 a1 false a0_0 a0_1 a0_2 l0_3 l0_4 l0_5 l0_6 a0_7 a0_8 a0_9 a0_10 a0_11)) = some r := by rw [if_pos rfl] at H; exact H
        clear H
        have H := H1
        clear H1
        have HC20 := Aside0.mk H
        clear H
        have hcz21_0 : wc.cell? ⟨gb381, 0, none⟩ = some (.int .i64 a0_0) := (blk_cell BK381.out 0).trans rfl
        have hcz21_1 : wc.cell? ⟨gb381, 1, none⟩ = some (.int .i64 a0_1) := (blk_cell BK381.out 1).trans rfl
        have hcz21_2 : wc.cell? ⟨gb381, 2, none⟩ = some (.int .i64 a0_2) := (blk_cell BK381.out 2).trans rfl
        have hcz21_3 : wc.cell? ⟨gb381, 3, none⟩ = some (.slice A0_3 l0_3.length c0_3) := (blk_cell BK381.out 3).trans rfl
        have hcz21_4 : wc.cell? ⟨gb381, 4, none⟩ = some (.slice A0_4 l0_4.length c0_4) := (blk_cell BK381.out 4).trans rfl
        have hcz21_5 : wc.cell? ⟨gb381, 5, none⟩ = some (.slice A0_5 l0_5.length c0_5) := (blk_cell BK381.out 5).trans rfl
        have hcz21_6 : wc.cell? ⟨gb381, 6, none⟩ = some (.slice A0_6 l0_6.length c0_6) := (blk_cell BK381.out 6).trans rfl
        have hcz21_7 : wc.cell? ⟨gb381, 7, none⟩ = some (.int .i64 a0_7) := (blk_cell BK381.out 7).trans rfl
        have hcz21_8 : wc.cell? ⟨gb381, 8, none⟩ = some (.int .i64 a0_8) := (blk_cell BK381.out 8).trans rfl
        have hcz21_9 : wc.cell? ⟨gb381, 9, none⟩ = some (.int .i64 a0_9) := (blk_cell BK381.out 9).trans rfl
        have hcz21_10 : wc.cell? ⟨gb381, 10, none⟩ = some (.int .i64 a0_10) := (blk_cell BK381.out 10).trans rfl
        have hcz21_11 : wc.cell? ⟨gb381, 11, none⟩ = some (.int .i64 a0_11) := (blk_cell BK381.out 11).trans rfl
        have hfz21_0 := blk_frozen BK381.out 0
        have hfz21_1 := blk_frozen BK381.out 1
        have hfz21_2 := blk_frozen BK381.out 2
        have hfz21_3 := blk_frozen BK381.out 3
        have hfz21_4 := blk_frozen BK381.out 4
        have hfz21_5 := blk_frozen BK381.out 5
        have hfz21_6 := blk_frozen BK381.out 6
        have hfz21_7 := blk_frozen BK381.out 7
        have hfz21_8 := blk_frozen BK381.out 8
        have hfz21_9 := blk_frozen BK381.out 9
        have hfz21_10 := blk_frozen BK381.out 10
        have hfz21_11 := blk_frozen BK381.out 11
        go_upto_region 7 with (first | ((with_reducible refine gate_callee (f := 31) rfl ?_); refine goesL_ (some 40) rfl rfl Try.func31 (by kernel_rfl) rfl #[.agg #[.int .i64 a0_0, .int .i64 a0_1, .int .i64 a0_2, .slice A0_3 l0_3.length c0_3, .slice A0_4 l0_4.length c0_4, .slice A0_5 l0_5.length c0_5, .slice A0_6 l0_6.length c0_6, .int .i64 a0_7, .int .i64 a0_8, .int .i64 a0_9, .int .i64 a0_10, .int .i64 a0_11]] rfl (by (try simp only [List.map_toArray, List.map_cons, List.map_nil]); first | done | rfl | (simp only [List.length_drop, List.length_take]; rfl)) ?_; (with_reducible refine (rescindref36_fields.calls a0_0 a0_1 a0_2 _ _ l0_3 _ _ l0_4 _ _ l0_5 _ _ l0_6 a0_7 a0_8 a0_9 a0_10 a0_11 true _ ?side1 ?side2 ?side3 ?side4 ?side5 ?side6 ?side7 ?side8 A18.out).mono ?_); (case side1 => repeat (first | exact (Kd.C_below HR0_3.out HB.out) | (with_reducible refine Kd.C_alloc ?_ _) | (with_reducible refine Kd.C_drewN ?_ _) | (with_reducible refine Kd.C_drew ?_))); (case side2 => exact HC0_3.out); (case side3 => repeat (first | exact (Kd.C_below HR0_4.out HB.out) | (with_reducible refine Kd.C_alloc ?_ _) | (with_reducible refine Kd.C_drewN ?_ _) | (with_reducible refine Kd.C_drew ?_))); (case side4 => exact HC0_4.out); (case side5 => repeat (first | exact (Kd.C_below HR0_5.out HB.out) | (with_reducible refine Kd.C_alloc ?_ _) | (with_reducible refine Kd.C_drewN ?_ _) | (with_reducible refine Kd.C_drew ?_))); (case side6 => exact HC0_5.out); (case side7 => repeat (first | exact (Kd.C_below HR0_6.out HB.out) | (with_reducible refine Kd.C_alloc ?_ _) | (with_reducible refine Kd.C_drewN ?_ _) | (with_reducible refine Kd.C_drew ?_))); (case side8 => exact HC0_6.out); rintro e w22 ⟨rfl, hb⟩; refine ⟨_, rfl, ?_⟩; have n0_ := Aside0.mk (blk_below (g := gb381) (o := .cells #[.int .i64 a0_0, .int .i64 a0_1, .int .i64 a0_2, .slice A0_3 l0_3.length c0_3, .slice A0_4 l0_4.length c0_4, .slice A0_5 l0_5.length c0_5, .slice A0_6 l0_6.length c0_6, .int .i64 a0_7, .int .i64 a0_8, .int .i64 a0_9, .int .i64 a0_10, .int .i64 a0_11] 40 (0, 0)) (by (with_reducible repeat (first | refine blk_drewN ?_ _ | refine blk_drew ?_ | refine blk_alloc ?_ _)); exact BK381.out) hb); have n1_ := Aside0.mk (below_step (by repeat (first | (with_reducible first | exact HB.out | apply below_alloc | apply pw_below_drewN | apply below_drew1 | refine below_set ?_ GE381.out) | exact HB.out)) hb); clear BK381; clear HB; have BK381 := n0_; have HB := n1_; clear n0_ n1_; (try clear hb); (try clear hb2); (try clear hk); (try clear hi)))
        (try simp only [Act.put, List.setIfInBounds_toArray, List.set_cons_zero, List.set_cons_succ])
        go_cut [54] (fun v54 wc => ∃ (kq : Nat) (x54_19 : Bool), v54 = .bool x54_19 ∧ Aside0 (rescindref36_node.j2 kq a1 x54_19 a0_0 a0_1 a0_2 l0_3 l0_4 l0_5 l0_6 a0_7 a0_8 a0_9 a0_10 a0_11 = some r) ∧ Aside0 (kq ≤ kj8) ∧ Aside0 (wc.heap[gb381]? = some (.cells #[.int .i64 a0_0, .int .i64 a0_1, .int .i64 a0_2, (.slice A0_3 l0_3.length c0_3), (.slice A0_4 l0_4.length c0_4), (.slice A0_5 l0_5.length c0_5), (.slice A0_6 l0_6.length c0_6), .int .i64 a0_7, .int .i64 a0_8, .int .i64 a0_9, .int .i64 a0_10, .int .i64 a0_11] 40 (0, 0))) ∧ Aside0 (Below w.heap.size w wc))
        case first =>
         have H := HC20.out
         clear HC20
         by_cases c23 : a0_0 = 1
         ·rw [if_pos c23] at H
          have c23b0 : (a0_0 == 1) = true := beq_iff_eq.mpr c23
          have c23b1 : (a0_0 != 1) = false := bne_eq_false_iff_eq.mpr c23
          clear c23
          (first | rw [c23b0] | (simp only [i64_w, i32_w]; rw [c23b0]) | skip)
          by_cases c24 : a0_1 < 0
          ·rw [if_pos c24] at H
           have c24b0 : decide (a0_1 < 0) = true := decide_eq_true c24
           clear c24
           have H' := Aside0.mk H
           clear H
           have hcz25_0 : w22.cell? ⟨gb381, 0, none⟩ = some (.int .i64 a0_0) := (blk_cell BK381.out 0).trans rfl
           have hcz25_1 : w22.cell? ⟨gb381, 1, none⟩ = some (.int .i64 a0_1) := (blk_cell BK381.out 1).trans rfl
           have hcz25_2 : w22.cell? ⟨gb381, 2, none⟩ = some (.int .i64 a0_2) := (blk_cell BK381.out 2).trans rfl
           have hcz25_3 : w22.cell? ⟨gb381, 3, none⟩ = some (.slice A0_3 l0_3.length c0_3) := (blk_cell BK381.out 3).trans rfl
           have hcz25_4 : w22.cell? ⟨gb381, 4, none⟩ = some (.slice A0_4 l0_4.length c0_4) := (blk_cell BK381.out 4).trans rfl
           have hcz25_5 : w22.cell? ⟨gb381, 5, none⟩ = some (.slice A0_5 l0_5.length c0_5) := (blk_cell BK381.out 5).trans rfl
           have hcz25_6 : w22.cell? ⟨gb381, 6, none⟩ = some (.slice A0_6 l0_6.length c0_6) := (blk_cell BK381.out 6).trans rfl
           have hcz25_7 : w22.cell? ⟨gb381, 7, none⟩ = some (.int .i64 a0_7) := (blk_cell BK381.out 7).trans rfl
           have hcz25_8 : w22.cell? ⟨gb381, 8, none⟩ = some (.int .i64 a0_8) := (blk_cell BK381.out 8).trans rfl
           have hcz25_9 : w22.cell? ⟨gb381, 9, none⟩ = some (.int .i64 a0_9) := (blk_cell BK381.out 9).trans rfl
           have hcz25_10 : w22.cell? ⟨gb381, 10, none⟩ = some (.int .i64 a0_10) := (blk_cell BK381.out 10).trans rfl
           have hcz25_11 : w22.cell? ⟨gb381, 11, none⟩ = some (.int .i64 a0_11) := (blk_cell BK381.out 11).trans rfl
           have hfz25_0 := blk_frozen BK381.out 0
           have hfz25_1 := blk_frozen BK381.out 1
           have hfz25_2 := blk_frozen BK381.out 2
           have hfz25_3 := blk_frozen BK381.out 3
           have hfz25_4 := blk_frozen BK381.out 4
           have hfz25_5 := blk_frozen BK381.out 5
           have hfz25_6 := blk_frozen BK381.out 6
           have hfz25_7 := blk_frozen BK381.out 7
           have hfz25_8 := blk_frozen BK381.out 8
           have hfz25_9 := blk_frozen BK381.out 9
           have hfz25_10 := blk_frozen BK381.out 10
           have hfz25_11 := blk_frozen BK381.out 11
           go_wp2
           go_meet
           case rel => exact ⟨_, (true), (by first | rfl | (simp; done) | (simp [*]; done)), H', ⟨by have := HJ2.out; have := HJ8.out; first | omega | exact Nat.le_refl _⟩, ⟨by (with_reducible repeat (first | refine blk_drewN ?_ _ | refine blk_drew ?_ | refine blk_alloc ?_ _)); exact BK381.out⟩, ⟨by repeat (first | (with_reducible first | exact HB.out | apply below_alloc | apply pw_below_drewN | apply below_drew1 | refine below_set ?_ GE381.out) | exact HB.out)⟩⟩
          ·rw [if_neg c24] at H
           have c24b0 : decide (a0_1 < 0) = false := decide_eq_false c24
           clear c24
           have H' := Aside0.mk H
           clear H
           have hcz26_0 : w22.cell? ⟨gb381, 0, none⟩ = some (.int .i64 a0_0) := (blk_cell BK381.out 0).trans rfl
           have hcz26_1 : w22.cell? ⟨gb381, 1, none⟩ = some (.int .i64 a0_1) := (blk_cell BK381.out 1).trans rfl
           have hcz26_2 : w22.cell? ⟨gb381, 2, none⟩ = some (.int .i64 a0_2) := (blk_cell BK381.out 2).trans rfl
           have hcz26_3 : w22.cell? ⟨gb381, 3, none⟩ = some (.slice A0_3 l0_3.length c0_3) := (blk_cell BK381.out 3).trans rfl
           have hcz26_4 : w22.cell? ⟨gb381, 4, none⟩ = some (.slice A0_4 l0_4.length c0_4) := (blk_cell BK381.out 4).trans rfl
           have hcz26_5 : w22.cell? ⟨gb381, 5, none⟩ = some (.slice A0_5 l0_5.length c0_5) := (blk_cell BK381.out 5).trans rfl
           have hcz26_6 : w22.cell? ⟨gb381, 6, none⟩ = some (.slice A0_6 l0_6.length c0_6) := (blk_cell BK381.out 6).trans rfl
           have hcz26_7 : w22.cell? ⟨gb381, 7, none⟩ = some (.int .i64 a0_7) := (blk_cell BK381.out 7).trans rfl
           have hcz26_8 : w22.cell? ⟨gb381, 8, none⟩ = some (.int .i64 a0_8) := (blk_cell BK381.out 8).trans rfl
           have hcz26_9 : w22.cell? ⟨gb381, 9, none⟩ = some (.int .i64 a0_9) := (blk_cell BK381.out 9).trans rfl
           have hcz26_10 : w22.cell? ⟨gb381, 10, none⟩ = some (.int .i64 a0_10) := (blk_cell BK381.out 10).trans rfl
           have hcz26_11 : w22.cell? ⟨gb381, 11, none⟩ = some (.int .i64 a0_11) := (blk_cell BK381.out 11).trans rfl
           have hfz26_0 := blk_frozen BK381.out 0
           have hfz26_1 := blk_frozen BK381.out 1
           have hfz26_2 := blk_frozen BK381.out 2
           have hfz26_3 := blk_frozen BK381.out 3
           have hfz26_4 := blk_frozen BK381.out 4
           have hfz26_5 := blk_frozen BK381.out 5
           have hfz26_6 := blk_frozen BK381.out 6
           have hfz26_7 := blk_frozen BK381.out 7
           have hfz26_8 := blk_frozen BK381.out 8
           have hfz26_9 := blk_frozen BK381.out 9
           have hfz26_10 := blk_frozen BK381.out 10
           have hfz26_11 := blk_frozen BK381.out 11
           go_wp2
           go_meet
           case rel => exact ⟨_, (decide (a0_1 > 7)), (by first | rfl | (simp; done) | (simp [*]; done)), H', ⟨by have := HJ2.out; have := HJ8.out; first | omega | exact Nat.le_refl _⟩, ⟨by (with_reducible repeat (first | refine blk_drewN ?_ _ | refine blk_drew ?_ | refine blk_alloc ?_ _)); exact BK381.out⟩, ⟨by repeat (first | (with_reducible first | exact HB.out | apply below_alloc | apply pw_below_drewN | apply below_drew1 | refine below_set ?_ GE381.out) | exact HB.out)⟩⟩
         ·rw [if_neg c23] at H
          have c23b0 : (a0_0 == 1) = false := beq_eq_false_iff_ne.mpr c23
          have c23b1 : (a0_0 != 1) = true := bne_iff_ne.mpr c23
          (first | rw [c23b0] | (simp only [i64_w, i32_w]; rw [c23b0]) | skip)
          have H' := Aside0.mk H
          clear H
          have hcz27_0 : w22.cell? ⟨gb381, 0, none⟩ = some (.int .i64 a0_0) := (blk_cell BK381.out 0).trans rfl
          have hcz27_1 : w22.cell? ⟨gb381, 1, none⟩ = some (.int .i64 a0_1) := (blk_cell BK381.out 1).trans rfl
          have hcz27_2 : w22.cell? ⟨gb381, 2, none⟩ = some (.int .i64 a0_2) := (blk_cell BK381.out 2).trans rfl
          have hcz27_3 : w22.cell? ⟨gb381, 3, none⟩ = some (.slice A0_3 l0_3.length c0_3) := (blk_cell BK381.out 3).trans rfl
          have hcz27_4 : w22.cell? ⟨gb381, 4, none⟩ = some (.slice A0_4 l0_4.length c0_4) := (blk_cell BK381.out 4).trans rfl
          have hcz27_5 : w22.cell? ⟨gb381, 5, none⟩ = some (.slice A0_5 l0_5.length c0_5) := (blk_cell BK381.out 5).trans rfl
          have hcz27_6 : w22.cell? ⟨gb381, 6, none⟩ = some (.slice A0_6 l0_6.length c0_6) := (blk_cell BK381.out 6).trans rfl
          have hcz27_7 : w22.cell? ⟨gb381, 7, none⟩ = some (.int .i64 a0_7) := (blk_cell BK381.out 7).trans rfl
          have hcz27_8 : w22.cell? ⟨gb381, 8, none⟩ = some (.int .i64 a0_8) := (blk_cell BK381.out 8).trans rfl
          have hcz27_9 : w22.cell? ⟨gb381, 9, none⟩ = some (.int .i64 a0_9) := (blk_cell BK381.out 9).trans rfl
          have hcz27_10 : w22.cell? ⟨gb381, 10, none⟩ = some (.int .i64 a0_10) := (blk_cell BK381.out 10).trans rfl
          have hcz27_11 : w22.cell? ⟨gb381, 11, none⟩ = some (.int .i64 a0_11) := (blk_cell BK381.out 11).trans rfl
          have hfz27_0 := blk_frozen BK381.out 0
          have hfz27_1 := blk_frozen BK381.out 1
          have hfz27_2 := blk_frozen BK381.out 2
          have hfz27_3 := blk_frozen BK381.out 3
          have hfz27_4 := blk_frozen BK381.out 4
          have hfz27_5 := blk_frozen BK381.out 5
          have hfz27_6 := blk_frozen BK381.out 6
          have hfz27_7 := blk_frozen BK381.out 7
          have hfz27_8 := blk_frozen BK381.out 8
          have hfz27_9 := blk_frozen BK381.out 9
          have hfz27_10 := blk_frozen BK381.out 10
          have hfz27_11 := blk_frozen BK381.out 11
          go_wp2
          go_meet
          case rel => exact ⟨_, (false), (by first | rfl | (simp; done) | (simp [*]; done)), H', ⟨by have := HJ2.out; have := HJ8.out; first | omega | exact Nat.le_refl _⟩, ⟨by (with_reducible repeat (first | refine blk_drewN ?_ _ | refine blk_drew ?_ | refine blk_alloc ?_ _)); exact BK381.out⟩, ⟨by repeat (first | (with_reducible first | exact HB.out | apply below_alloc | apply pw_below_drewN | apply below_drew1 | refine below_set ?_ GE381.out) | exact HB.out)⟩⟩
        case rest =>
         clear HC20
         try clear c1
         try clear c2
         try clear p2
         try clear c3
         try clear c5
         try clear c5b0
         try clear c8
         try clear c10
         try clear c10b0
         try clear c10b1
         try clear c12
         try clear c12b0
         try clear c12b1
         try clear c14
         try clear c14b0
         try clear c14b1
         try clear c17
         try clear c19
         try clear c23
         try clear c23b0
         try clear c23b1
         try clear c24
         try clear c24b0
         try clear hcz11_0
         try clear hcz11_1
         try clear hcz11_10
         try clear hcz11_11
         try clear hcz11_2
         try clear hcz11_3
         try clear hcz11_4
         try clear hcz11_5
         try clear hcz11_6
         try clear hcz11_7
         try clear hcz11_8
         try clear hcz11_9
         try clear hcz13_0
         try clear hcz13_1
         try clear hcz13_10
         try clear hcz13_11
         try clear hcz13_2
         try clear hcz13_3
         try clear hcz13_4
         try clear hcz13_5
         try clear hcz13_6
         try clear hcz13_7
         try clear hcz13_8
         try clear hcz13_9
         try clear hcz15_0
         try clear hcz15_1
         try clear hcz15_10
         try clear hcz15_11
         try clear hcz15_2
         try clear hcz15_3
         try clear hcz15_4
         try clear hcz15_5
         try clear hcz15_6
         try clear hcz15_7
         try clear hcz15_8
         try clear hcz15_9
         try clear hcz16_0
         try clear hcz16_1
         try clear hcz16_10
         try clear hcz16_11
         try clear hcz16_2
         try clear hcz16_3
         try clear hcz16_4
         try clear hcz16_5
         try clear hcz16_6
         try clear hcz16_7
         try clear hcz16_8
         try clear hcz16_9
         try clear hcz21_0
         try clear hcz21_1
         try clear hcz21_10
         try clear hcz21_11
         try clear hcz21_2
         try clear hcz21_3
         try clear hcz21_4
         try clear hcz21_5
         try clear hcz21_6
         try clear hcz21_7
         try clear hcz21_8
         try clear hcz21_9
         try clear hcz25_0
         try clear hcz25_1
         try clear hcz25_10
         try clear hcz25_11
         try clear hcz25_2
         try clear hcz25_3
         try clear hcz25_4
         try clear hcz25_5
         try clear hcz25_6
         try clear hcz25_7
         try clear hcz25_8
         try clear hcz25_9
         try clear hcz26_0
         try clear hcz26_1
         try clear hcz26_10
         try clear hcz26_11
         try clear hcz26_2
         try clear hcz26_3
         try clear hcz26_4
         try clear hcz26_5
         try clear hcz26_6
         try clear hcz26_7
         try clear hcz26_8
         try clear hcz26_9
         try clear hcz27_0
         try clear hcz27_1
         try clear hcz27_10
         try clear hcz27_11
         try clear hcz27_2
         try clear hcz27_3
         try clear hcz27_4
         try clear hcz27_5
         try clear hcz27_6
         try clear hcz27_7
         try clear hcz27_8
         try clear hcz27_9
         try clear hcz6_0
         try clear hcz6_1
         try clear hcz6_10
         try clear hcz6_11
         try clear hcz6_2
         try clear hcz6_3
         try clear hcz6_4
         try clear hcz6_5
         try clear hcz6_6
         try clear hcz6_7
         try clear hcz6_8
         try clear hcz6_9
         try clear hcz7_0
         try clear hcz7_1
         try clear hcz7_10
         try clear hcz7_11
         try clear hcz7_2
         try clear hcz7_3
         try clear hcz7_4
         try clear hcz7_5
         try clear hcz7_6
         try clear hcz7_7
         try clear hcz7_8
         try clear hcz7_9
         try clear hfz11_0
         try clear hfz11_1
         try clear hfz11_10
         try clear hfz11_11
         try clear hfz11_2
         try clear hfz11_3
         try clear hfz11_4
         try clear hfz11_5
         try clear hfz11_6
         try clear hfz11_7
         try clear hfz11_8
         try clear hfz11_9
         try clear hfz13_0
         try clear hfz13_1
         try clear hfz13_10
         try clear hfz13_11
         try clear hfz13_2
         try clear hfz13_3
         try clear hfz13_4
         try clear hfz13_5
         try clear hfz13_6
         try clear hfz13_7
         try clear hfz13_8
         try clear hfz13_9
         try clear hfz15_0
         try clear hfz15_1
         try clear hfz15_10
         try clear hfz15_11
         try clear hfz15_2
         try clear hfz15_3
         try clear hfz15_4
         try clear hfz15_5
         try clear hfz15_6
         try clear hfz15_7
         try clear hfz15_8
         try clear hfz15_9
         try clear hfz16_0
         try clear hfz16_1
         try clear hfz16_10
         try clear hfz16_11
         try clear hfz16_2
         try clear hfz16_3
         try clear hfz16_4
         try clear hfz16_5
         try clear hfz16_6
         try clear hfz16_7
         try clear hfz16_8
         try clear hfz16_9
         try clear hfz21_0
         try clear hfz21_1
         try clear hfz21_10
         try clear hfz21_11
         try clear hfz21_2
         try clear hfz21_3
         try clear hfz21_4
         try clear hfz21_5
         try clear hfz21_6
         try clear hfz21_7
         try clear hfz21_8
         try clear hfz21_9
         try clear hfz25_0
         try clear hfz25_1
         try clear hfz25_10
         try clear hfz25_11
         try clear hfz25_2
         try clear hfz25_3
         try clear hfz25_4
         try clear hfz25_5
         try clear hfz25_6
         try clear hfz25_7
         try clear hfz25_8
         try clear hfz25_9
         try clear hfz26_0
         try clear hfz26_1
         try clear hfz26_10
         try clear hfz26_11
         try clear hfz26_2
         try clear hfz26_3
         try clear hfz26_4
         try clear hfz26_5
         try clear hfz26_6
         try clear hfz26_7
         try clear hfz26_8
         try clear hfz26_9
         try clear hfz27_0
         try clear hfz27_1
         try clear hfz27_10
         try clear hfz27_11
         try clear hfz27_2
         try clear hfz27_3
         try clear hfz27_4
         try clear hfz27_5
         try clear hfz27_6
         try clear hfz27_7
         try clear hfz27_8
         try clear hfz27_9
         try clear hfz6_0
         try clear hfz6_1
         try clear hfz6_10
         try clear hfz6_11
         try clear hfz6_2
         try clear hfz6_3
         try clear hfz6_4
         try clear hfz6_5
         try clear hfz6_6
         try clear hfz6_7
         try clear hfz6_8
         try clear hfz6_9
         try clear hfz7_0
         try clear hfz7_1
         try clear hfz7_10
         try clear hfz7_11
         try clear hfz7_2
         try clear hfz7_3
         try clear hfz7_4
         try clear hfz7_5
         try clear hfz7_6
         try clear hfz7_7
         try clear hfz7_8
         try clear hfz7_9
         try clear p2
         obtain ⟨kq, x54_19, rfl, HA, HJ19, BK381, HB⟩ := hcut
         cases kq with
         | zero => exact absurd HA.out (by simp [rescindref36_node.j2])
         | succ kj19 =>
          have H := HA.out
          clear HA
          simp only [rescindref36_node.j2] at H
          by_cases c28 : x54_19 = true
          ·subst c28
           have H1 : (some 3) = some r := by rw [if_pos rfl] at H; exact H
           clear H
           have H := H1
           clear H1
           obtain rfl := Option.some.inj H
           go_wp2
           go_ret
           exact ⟨by first | rfl | (simp [errW_none, errW_some] <;> rfl) | (simp [*, errW_none, errW_some] <;> rfl), by repeat (first | (with_reducible first | exact HB.out | apply below_alloc | apply pw_below_drewN | apply below_drew1 | refine below_set ?_ GE381.out) | exact HB.out)⟩
          ·replace c28 := Bool.eq_false_iff.mpr c28
           subst c28
           have H1 : ((rescindref36_Reads.f a0_0 a0_1 a0_2 l0_3 l0_4 l0_5 l0_6 a0_7 a0_8 a0_9 a0_10 a0_11).bind fun t383 => (rescindref36_node.l0 kj19 a1 t383 0 a0_0 a0_1 a0_2 l0_3 l0_4 l0_5 l0_6 a0_7 a0_8 a0_9 a0_10 a0_11)) = some r := by rw [if_neg (show ¬ (false = true) by decide)] at H; exact H
           clear H
           have H := H1
           clear H1
           replace H := Option.bind_eq_some_iff.mp H
           obtain ⟨t383, A290, H⟩ := H
           replace H : (rescindref36_node.l0 kj19 a1 t383 0 a0_0 a0_1 a0_2 l0_3 l0_4 l0_5 l0_6 a0_7 a0_8 a0_9 a0_10 a0_11) = some r := H
           have A29 := Aside0.mk A290
           clear A290
           have H' := Aside0.mk H
           clear H
           have hcz30_0 : wc.cell? ⟨gb381, 0, none⟩ = some (.int .i64 a0_0) := (blk_cell BK381.out 0).trans rfl
           have hcz30_1 : wc.cell? ⟨gb381, 1, none⟩ = some (.int .i64 a0_1) := (blk_cell BK381.out 1).trans rfl
           have hcz30_2 : wc.cell? ⟨gb381, 2, none⟩ = some (.int .i64 a0_2) := (blk_cell BK381.out 2).trans rfl
           have hcz30_3 : wc.cell? ⟨gb381, 3, none⟩ = some (.slice A0_3 l0_3.length c0_3) := (blk_cell BK381.out 3).trans rfl
           have hcz30_4 : wc.cell? ⟨gb381, 4, none⟩ = some (.slice A0_4 l0_4.length c0_4) := (blk_cell BK381.out 4).trans rfl
           have hcz30_5 : wc.cell? ⟨gb381, 5, none⟩ = some (.slice A0_5 l0_5.length c0_5) := (blk_cell BK381.out 5).trans rfl
           have hcz30_6 : wc.cell? ⟨gb381, 6, none⟩ = some (.slice A0_6 l0_6.length c0_6) := (blk_cell BK381.out 6).trans rfl
           have hcz30_7 : wc.cell? ⟨gb381, 7, none⟩ = some (.int .i64 a0_7) := (blk_cell BK381.out 7).trans rfl
           have hcz30_8 : wc.cell? ⟨gb381, 8, none⟩ = some (.int .i64 a0_8) := (blk_cell BK381.out 8).trans rfl
           have hcz30_9 : wc.cell? ⟨gb381, 9, none⟩ = some (.int .i64 a0_9) := (blk_cell BK381.out 9).trans rfl
           have hcz30_10 : wc.cell? ⟨gb381, 10, none⟩ = some (.int .i64 a0_10) := (blk_cell BK381.out 10).trans rfl
           have hcz30_11 : wc.cell? ⟨gb381, 11, none⟩ = some (.int .i64 a0_11) := (blk_cell BK381.out 11).trans rfl
           have hfz30_0 := blk_frozen BK381.out 0
           have hfz30_1 := blk_frozen BK381.out 1
           have hfz30_2 := blk_frozen BK381.out 2
           have hfz30_3 := blk_frozen BK381.out 3
           have hfz30_4 := blk_frozen BK381.out 4
           have hfz30_5 := blk_frozen BK381.out 5
           have hfz30_6 := blk_frozen BK381.out 6
           have hfz30_7 := blk_frozen BK381.out 7
           have hfz30_8 := blk_frozen BK381.out 8
           have hfz30_9 := blk_frozen BK381.out 9
           have hfz30_10 := blk_frozen BK381.out 10
           have hfz30_11 := blk_frozen BK381.out 11
           go_wp2_with (first | ((with_reducible refine gate_callee (f := 32) rfl ?_); refine goesL_ (some 56) rfl rfl Try.func32 (by kernel_rfl) rfl #[.agg #[.int .i64 a0_0, .int .i64 a0_1, .int .i64 a0_2, .slice A0_3 l0_3.length c0_3, .slice A0_4 l0_4.length c0_4, .slice A0_5 l0_5.length c0_5, .slice A0_6 l0_6.length c0_6, .int .i64 a0_7, .int .i64 a0_8, .int .i64 a0_9, .int .i64 a0_10, .int .i64 a0_11]] rfl (by (try simp only [List.map_toArray, List.map_cons, List.map_nil]); first | done | rfl | (simp only [List.length_drop, List.length_take]; rfl)) ?_; (with_reducible refine (rescindref36_Reads.calls a0_0 a0_1 a0_2 _ _ l0_3 _ _ l0_4 _ _ l0_5 _ _ l0_6 a0_7 a0_8 a0_9 a0_10 a0_11 t383 _ ?side1 ?side2 ?side3 ?side4 ?side5 ?side6 ?side7 ?side8 A29.out).mono ?_); (case side1 => repeat (first | exact (Kd.C_below HR0_3.out HB.out) | (with_reducible refine Kd.C_alloc ?_ _) | (with_reducible refine Kd.C_drewN ?_ _) | (with_reducible refine Kd.C_drew ?_))); (case side2 => exact HC0_3.out); (case side3 => repeat (first | exact (Kd.C_below HR0_4.out HB.out) | (with_reducible refine Kd.C_alloc ?_ _) | (with_reducible refine Kd.C_drewN ?_ _) | (with_reducible refine Kd.C_drew ?_))); (case side4 => exact HC0_4.out); (case side5 => repeat (first | exact (Kd.C_below HR0_5.out HB.out) | (with_reducible refine Kd.C_alloc ?_ _) | (with_reducible refine Kd.C_drewN ?_ _) | (with_reducible refine Kd.C_drew ?_))); (case side6 => exact HC0_5.out); (case side7 => repeat (first | exact (Kd.C_below HR0_6.out HB.out) | (with_reducible refine Kd.C_alloc ?_ _) | (with_reducible refine Kd.C_drewN ?_ _) | (with_reducible refine Kd.C_drew ?_))); (case side8 => exact HC0_6.out); rintro e w31 ⟨v384, rfl, ho0, hb⟩; refine ⟨_, rfl, ?_⟩; have n0_ := Aside0.mk (Kd.R_lower ho0 (below_size (by repeat (first | (with_reducible first | exact HB.out | apply below_alloc | apply pw_below_drewN | apply below_drew1 | refine below_set ?_ GE381.out) | exact HB.out)))); have n1_ := Aside0.mk (blk_below (g := gb381) (o := .cells #[.int .i64 a0_0, .int .i64 a0_1, .int .i64 a0_2, .slice A0_3 l0_3.length c0_3, .slice A0_4 l0_4.length c0_4, .slice A0_5 l0_5.length c0_5, .slice A0_6 l0_6.length c0_6, .int .i64 a0_7, .int .i64 a0_8, .int .i64 a0_9, .int .i64 a0_10, .int .i64 a0_11] 40 (0, 0)) (by (with_reducible repeat (first | refine blk_drewN ?_ _ | refine blk_drew ?_ | refine blk_alloc ?_ _)); exact BK381.out) hb); have n2_ := Aside0.mk (below_step (by repeat (first | (with_reducible first | exact HB.out | apply below_alloc | apply pw_below_drewN | apply below_drew1 | refine below_set ?_ GE381.out) | exact HB.out)) hb); clear BK381; clear HB; have HO385 := n0_; have BK381 := n1_; have HB := n2_; clear n0_ n1_ n2_; (try clear hb); (try clear hb2); (try clear hk); (try clear hi); (try clear ho0)))
           go_loopg [6] kj19 (fun kq v6 w' => ∃ (x6_4 : Int), v6 = .int .i64 x6_4 ∧ Aside0 (rescindref36_node.l0 kq a1 t383 x6_4 a0_0 a0_1 a0_2 l0_3 l0_4 l0_5 l0_6 a0_7 a0_8 a0_9 a0_10 a0_11 = some r) ∧ Aside0 (kq ≤ kj19) ∧ Aside0 (Kd.R (Kd.int .i64) 3 w' w.heap.size (fun _ => True) v384 t383) ∧ Aside0 (w'.heap[gb381]? = some (.cells #[.int .i64 a0_0, .int .i64 a0_1, .int .i64 a0_2, (.slice A0_3 l0_3.length c0_3), (.slice A0_4 l0_4.length c0_4), (.slice A0_5 l0_5.length c0_5), (.slice A0_6 l0_6.length c0_6), .int .i64 a0_7, .int .i64 a0_8, .int .i64 a0_9, .int .i64 a0_10, .int .i64 a0_11] 40 (0, 0))) ∧ Aside0 (Below w.heap.size w w'))
           case atStart => exact ⟨(0), (by first | rfl | (simp; done) | (simp [*]; done)), H', ⟨Nat.le_refl _⟩, ⟨by (with_reducible repeat (first | apply Kd.R_alloc | apply Kd.R_drewN | apply Kd.R_drew)); exact HO385.out⟩, ⟨by (with_reducible repeat (first | refine blk_drewN ?_ _ | refine blk_drew ?_ | refine blk_alloc ?_ _)); exact BK381.out⟩, ⟨by repeat (first | (with_reducible first | exact HB.out | apply below_alloc | apply pw_below_drewN | apply below_drew1 | refine below_set ?_ GE381.out) | exact HB.out)⟩⟩
           case round =>
            clear H'
            try clear c1
            try clear c2
            try clear p2
            try clear c3
            try clear c5
            try clear c5b0
            try clear c8
            try clear c10
            try clear c10b0
            try clear c10b1
            try clear c12
            try clear c12b0
            try clear c12b1
            try clear c14
            try clear c14b0
            try clear c14b1
            try clear c17
            try clear c19
            try clear c23
            try clear c23b0
            try clear c23b1
            try clear c24
            try clear c24b0
            try clear c28
            try clear c31
            try clear hcz11_0
            try clear hcz11_1
            try clear hcz11_10
            try clear hcz11_11
            try clear hcz11_2
            try clear hcz11_3
            try clear hcz11_4
            try clear hcz11_5
            try clear hcz11_6
            try clear hcz11_7
            try clear hcz11_8
            try clear hcz11_9
            try clear hcz13_0
            try clear hcz13_1
            try clear hcz13_10
            try clear hcz13_11
            try clear hcz13_2
            try clear hcz13_3
            try clear hcz13_4
            try clear hcz13_5
            try clear hcz13_6
            try clear hcz13_7
            try clear hcz13_8
            try clear hcz13_9
            try clear hcz15_0
            try clear hcz15_1
            try clear hcz15_10
            try clear hcz15_11
            try clear hcz15_2
            try clear hcz15_3
            try clear hcz15_4
            try clear hcz15_5
            try clear hcz15_6
            try clear hcz15_7
            try clear hcz15_8
            try clear hcz15_9
            try clear hcz16_0
            try clear hcz16_1
            try clear hcz16_10
            try clear hcz16_11
            try clear hcz16_2
            try clear hcz16_3
            try clear hcz16_4
            try clear hcz16_5
            try clear hcz16_6
            try clear hcz16_7
            try clear hcz16_8
            try clear hcz16_9
            try clear hcz21_0
            try clear hcz21_1
            try clear hcz21_10
            try clear hcz21_11
            try clear hcz21_2
            try clear hcz21_3
            try clear hcz21_4
            try clear hcz21_5
            try clear hcz21_6
            try clear hcz21_7
            try clear hcz21_8
            try clear hcz21_9
            try clear hcz25_0
            try clear hcz25_1
            try clear hcz25_10
            try clear hcz25_11
            try clear hcz25_2
            try clear hcz25_3
            try clear hcz25_4
            try clear hcz25_5
            try clear hcz25_6
            try clear hcz25_7
            try clear hcz25_8
            try clear hcz25_9
            try clear hcz26_0
            try clear hcz26_1
            try clear hcz26_10
            try clear hcz26_11
            try clear hcz26_2
            try clear hcz26_3
            try clear hcz26_4
            try clear hcz26_5
            try clear hcz26_6
            try clear hcz26_7
            try clear hcz26_8
            try clear hcz26_9
            try clear hcz27_0
            try clear hcz27_1
            try clear hcz27_10
            try clear hcz27_11
            try clear hcz27_2
            try clear hcz27_3
            try clear hcz27_4
            try clear hcz27_5
            try clear hcz27_6
            try clear hcz27_7
            try clear hcz27_8
            try clear hcz27_9
            try clear hcz30_0
            try clear hcz30_1
            try clear hcz30_10
            try clear hcz30_11
            try clear hcz30_2
            try clear hcz30_3
            try clear hcz30_4
            try clear hcz30_5
            try clear hcz30_6
            try clear hcz30_7
            try clear hcz30_8
            try clear hcz30_9
            try clear hcz6_0
            try clear hcz6_1
            try clear hcz6_10
            try clear hcz6_11
            try clear hcz6_2
            try clear hcz6_3
            try clear hcz6_4
            try clear hcz6_5
            try clear hcz6_6
            try clear hcz6_7
            try clear hcz6_8
            try clear hcz6_9
            try clear hcz7_0
            try clear hcz7_1
            try clear hcz7_10
            try clear hcz7_11
            try clear hcz7_2
            try clear hcz7_3
            try clear hcz7_4
            try clear hcz7_5
            try clear hcz7_6
            try clear hcz7_7
            try clear hcz7_8
            try clear hcz7_9
            try clear hfz11_0
            try clear hfz11_1
            try clear hfz11_10
            try clear hfz11_11
            try clear hfz11_2
            try clear hfz11_3
            try clear hfz11_4
            try clear hfz11_5
            try clear hfz11_6
            try clear hfz11_7
            try clear hfz11_8
            try clear hfz11_9
            try clear hfz13_0
            try clear hfz13_1
            try clear hfz13_10
            try clear hfz13_11
            try clear hfz13_2
            try clear hfz13_3
            try clear hfz13_4
            try clear hfz13_5
            try clear hfz13_6
            try clear hfz13_7
            try clear hfz13_8
            try clear hfz13_9
            try clear hfz15_0
            try clear hfz15_1
            try clear hfz15_10
            try clear hfz15_11
            try clear hfz15_2
            try clear hfz15_3
            try clear hfz15_4
            try clear hfz15_5
            try clear hfz15_6
            try clear hfz15_7
            try clear hfz15_8
            try clear hfz15_9
            try clear hfz16_0
            try clear hfz16_1
            try clear hfz16_10
            try clear hfz16_11
            try clear hfz16_2
            try clear hfz16_3
            try clear hfz16_4
            try clear hfz16_5
            try clear hfz16_6
            try clear hfz16_7
            try clear hfz16_8
            try clear hfz16_9
            try clear hfz21_0
            try clear hfz21_1
            try clear hfz21_10
            try clear hfz21_11
            try clear hfz21_2
            try clear hfz21_3
            try clear hfz21_4
            try clear hfz21_5
            try clear hfz21_6
            try clear hfz21_7
            try clear hfz21_8
            try clear hfz21_9
            try clear hfz25_0
            try clear hfz25_1
            try clear hfz25_10
            try clear hfz25_11
            try clear hfz25_2
            try clear hfz25_3
            try clear hfz25_4
            try clear hfz25_5
            try clear hfz25_6
            try clear hfz25_7
            try clear hfz25_8
            try clear hfz25_9
            try clear hfz26_0
            try clear hfz26_1
            try clear hfz26_10
            try clear hfz26_11
            try clear hfz26_2
            try clear hfz26_3
            try clear hfz26_4
            try clear hfz26_5
            try clear hfz26_6
            try clear hfz26_7
            try clear hfz26_8
            try clear hfz26_9
            try clear hfz27_0
            try clear hfz27_1
            try clear hfz27_10
            try clear hfz27_11
            try clear hfz27_2
            try clear hfz27_3
            try clear hfz27_4
            try clear hfz27_5
            try clear hfz27_6
            try clear hfz27_7
            try clear hfz27_8
            try clear hfz27_9
            try clear hfz30_0
            try clear hfz30_1
            try clear hfz30_10
            try clear hfz30_11
            try clear hfz30_2
            try clear hfz30_3
            try clear hfz30_4
            try clear hfz30_5
            try clear hfz30_6
            try clear hfz30_7
            try clear hfz30_8
            try clear hfz30_9
            try clear hfz6_0
            try clear hfz6_1
            try clear hfz6_10
            try clear hfz6_11
            try clear hfz6_2
            try clear hfz6_3
            try clear hfz6_4
            try clear hfz6_5
            try clear hfz6_6
            try clear hfz6_7
            try clear hfz6_8
            try clear hfz6_9
            try clear hfz7_0
            try clear hfz7_1
            try clear hfz7_10
            try clear hfz7_11
            try clear hfz7_2
            try clear hfz7_3
            try clear hfz7_4
            try clear hfz7_5
            try clear hfz7_6
            try clear hfz7_7
            try clear hfz7_8
            try clear hfz7_9
            try clear p2
            obtain ⟨x6_4, rfl, HA, HK4, HO_5, BK381, HB⟩ := hrel
            cases gk with
            | zero => exact absurd HA.out (by simp [rescindref36_node.l0])
            | succ k4 =>
             have H := HA.out
             clear HA
             simp only [rescindref36_node.l0] at H
             by_cases c32 : x6_4 < (t383.length : Int)
             ·rw [if_pos c32] at H
              have c32b0 : decide (x6_4 < (t383.length : Int)) = true := decide_eq_true c32
              clear c32
              by_cases c33 : 0 ≤ x6_4
              ·rw [if_pos c33] at H
               have c33b0 : decide (0 ≤ x6_4) = true := decide_eq_true c33
               clear c33
               by_cases c34 : (rd t383 x6_4) < 0
               ·rw [if_pos c34] at H
                have c34b0 : decide ((rd t383 x6_4) < 0) = true := decide_eq_true c34
                clear c34
                obtain rfl := Option.some.inj H
                obtain ⟨Ao35, co35, eo35⟩ := Kd.R_slice HO_5.out
                subst eo35
                have p386 : 0 ≤ (x6_4 : Int) := of_decide_eq_true (by first | (with_reducible assumption) | assumption)
                have q386 : x6_4 < (t383.length : Int) := of_decide_eq_true (by first | (with_reducible assumption) | assumption)
                obtain ⟨ad386, e386, hx386_0⟩ := Kd.at_int (Kd.R_reads' HO_5.out).2.2 x6_4 p386 q386
                cases e386
                replace p386 := eq_true p386
                replace q386 := eq_true q386
                go_wp2
                go_ret
                exact ⟨by first | rfl | (simp [errW_none, errW_some] <;> rfl) | (simp [*, errW_none, errW_some] <;> rfl), by repeat (first | (with_reducible first | exact HB.out | apply below_alloc | apply pw_below_drewN | apply below_drew1 | refine below_set ?_ GE381.out) | exact HB.out)⟩
               ·rw [if_neg c34] at H
                have c34b0 : decide ((rd t383 x6_4) < 0) = false := decide_eq_false c34
                clear c34
                by_cases c36 : (rd t383 x6_4) ≥ a1
                ·rw [if_pos c36] at H
                 have c36b0 : decide (a1 ≤ (rd t383 x6_4)) = true := decide_eq_true c36
                 clear c36
                 obtain rfl := Option.some.inj H
                 obtain ⟨Ao37, co37, eo37⟩ := Kd.R_slice HO_5.out
                 subst eo37
                 have p386 : 0 ≤ (x6_4 : Int) := of_decide_eq_true (by first | (with_reducible assumption) | assumption)
                 have q386 : x6_4 < (t383.length : Int) := of_decide_eq_true (by first | (with_reducible assumption) | assumption)
                 obtain ⟨ad386, e386, hx386_0⟩ := Kd.at_int (Kd.R_reads' HO_5.out).2.2 x6_4 p386 q386
                 cases e386
                 replace p386 := eq_true p386
                 replace q386 := eq_true q386
                 have p387 : 0 ≤ (x6_4 : Int) := of_decide_eq_true (by first | (with_reducible assumption) | assumption)
                 have q387 : x6_4 < (t383.length : Int) := of_decide_eq_true (by first | (with_reducible assumption) | assumption)
                 obtain ⟨ad387, e387, hx387_0⟩ := Kd.at_int (Kd.R_reads' HO_5.out).2.2 x6_4 p387 q387
                 obtain rfl : ad386 = ad387 := (by injection e387)
                 replace p387 := eq_true p387
                 replace q387 := eq_true q387
                 go_wp2
                 go_ret
                 exact ⟨by first | rfl | (simp [errW_none, errW_some] <;> rfl) | (simp [*, errW_none, errW_some] <;> rfl), by repeat (first | (with_reducible first | exact HB.out | apply below_alloc | apply pw_below_drewN | apply below_drew1 | refine below_set ?_ GE381.out) | exact HB.out)⟩
                ·rw [if_neg c36] at H
                 have c36b0 : decide (a1 ≤ (rd t383 x6_4)) = false := decide_eq_false c36
                 clear c36
                 have H' := Aside0.mk H
                 clear H
                 obtain ⟨Ao38, co38, eo38⟩ := Kd.R_slice HO_5.out
                 subst eo38
                 have p386 : 0 ≤ (x6_4 : Int) := of_decide_eq_true (by first | (with_reducible assumption) | assumption)
                 have q386 : x6_4 < (t383.length : Int) := of_decide_eq_true (by first | (with_reducible assumption) | assumption)
                 obtain ⟨ad386, e386, hx386_0⟩ := Kd.at_int (Kd.R_reads' HO_5.out).2.2 x6_4 p386 q386
                 cases e386
                 replace p386 := eq_true p386
                 replace q386 := eq_true q386
                 have p387 : 0 ≤ (x6_4 : Int) := of_decide_eq_true (by first | (with_reducible assumption) | assumption)
                 have q387 : x6_4 < (t383.length : Int) := of_decide_eq_true (by first | (with_reducible assumption) | assumption)
                 obtain ⟨ad387, e387, hx387_0⟩ := Kd.at_int (Kd.R_reads' HO_5.out).2.2 x6_4 p387 q387
                 obtain rfl : ad386 = ad387 := (by injection e387)
                 replace p387 := eq_true p387
                 replace q387 := eq_true q387
                 go_wp2
                 go_roundg k4
                 case measure => have := HJ2.out; have := HJ8.out; have := HJ19.out; have := HK4.out; omega
                 case rel => exact ⟨(wrap64 (x6_4 + 1)), (by first | rfl | (simp; done) | (simp [*]; done)), H', ⟨by have := HJ2.out; have := HJ8.out; have := HJ19.out; have := HK4.out; omega⟩, ⟨by (with_reducible repeat (first | apply Kd.R_alloc | apply Kd.R_drewN | apply Kd.R_drew)); exact HO_5.out⟩, ⟨by (with_reducible repeat (first | refine blk_drewN ?_ _ | refine blk_drew ?_ | refine blk_alloc ?_ _)); exact BK381.out⟩, ⟨by repeat (first | (with_reducible first | exact HB.out | apply below_alloc | apply pw_below_drewN | apply below_drew1 | refine below_set ?_ GE381.out) | exact HB.out)⟩⟩
              ·rw [if_neg c33] at H
               exact absurd H (by simp)
             ·rw [if_neg c32] at H
              have c32b0 : decide (x6_4 < (t383.length : Int)) = false := decide_eq_false c32
              clear c32
              have H' := Aside0.mk H
              clear H
              obtain ⟨Ao39, co39, eo39⟩ := Kd.R_slice HO_5.out
              subst eo39
              go_wp2
              go_loopg [7] k4 (fun kq v7 w' => ∃ (x7_5 : Int), v7 = .int .i64 x7_5 ∧ Aside0 (rescindref36_node.l1 kq x7_5 a0_0 a0_1 a0_2 l0_3 l0_4 l0_5 l0_6 a0_7 a0_8 a0_9 a0_10 a0_11 = some r) ∧ Aside0 (kq ≤ k4) ∧ Aside0 (w'.heap[gb381]? = some (.cells #[.int .i64 a0_0, .int .i64 a0_1, .int .i64 a0_2, (.slice A0_3 l0_3.length c0_3), (.slice A0_4 l0_4.length c0_4), (.slice A0_5 l0_5.length c0_5), (.slice A0_6 l0_6.length c0_6), .int .i64 a0_7, .int .i64 a0_8, .int .i64 a0_9, .int .i64 a0_10, .int .i64 a0_11] 40 (0, 0))) ∧ Aside0 (Below w.heap.size w w'))
              case atStart => exact ⟨(0), (by first | rfl | (simp; done) | (simp [*]; done)), H', ⟨Nat.le_refl _⟩, ⟨by (with_reducible repeat (first | refine blk_drewN ?_ _ | refine blk_drew ?_ | refine blk_alloc ?_ _)); exact BK381.out⟩, ⟨by repeat (first | (with_reducible first | exact HB.out | apply below_alloc | apply pw_below_drewN | apply below_drew1 | refine below_set ?_ GE381.out) | exact HB.out)⟩⟩
              case round =>
               clear H'
               try clear c1
               try clear c2
               try clear p2
               try clear c3
               try clear p3
               try clear q3
               try clear hx3
               try clear c5
               try clear c5b0
               try clear p6
               try clear c8
               try clear c10
               try clear c10b0
               try clear c10b1
               try clear c12
               try clear c12b0
               try clear c12b1
               try clear c14
               try clear c14b0
               try clear c14b1
               try clear c17
               try clear c19
               try clear c23
               try clear c23b0
               try clear c23b1
               try clear c24
               try clear c24b0
               try clear c28
               try clear c31
               try clear c32
               try clear c32b0
               try clear c33
               try clear c33b0
               try clear c34
               try clear c34b0
               try clear c36
               try clear c36b0
               try clear p38
               try clear q38
               try clear hx38
               try clear hcz11_0
               try clear hcz11_1
               try clear hcz11_10
               try clear hcz11_11
               try clear hcz11_2
               try clear hcz11_3
               try clear hcz11_4
               try clear hcz11_5
               try clear hcz11_6
               try clear hcz11_7
               try clear hcz11_8
               try clear hcz11_9
               try clear hcz13_0
               try clear hcz13_1
               try clear hcz13_10
               try clear hcz13_11
               try clear hcz13_2
               try clear hcz13_3
               try clear hcz13_4
               try clear hcz13_5
               try clear hcz13_6
               try clear hcz13_7
               try clear hcz13_8
               try clear hcz13_9
               try clear hcz15_0
               try clear hcz15_1
               try clear hcz15_10
               try clear hcz15_11
               try clear hcz15_2
               try clear hcz15_3
               try clear hcz15_4
               try clear hcz15_5
               try clear hcz15_6
               try clear hcz15_7
               try clear hcz15_8
               try clear hcz15_9
               try clear hcz16_0
               try clear hcz16_1
               try clear hcz16_10
               try clear hcz16_11
               try clear hcz16_2
               try clear hcz16_3
               try clear hcz16_4
               try clear hcz16_5
               try clear hcz16_6
               try clear hcz16_7
               try clear hcz16_8
               try clear hcz16_9
               try clear hcz21_0
               try clear hcz21_1
               try clear hcz21_10
               try clear hcz21_11
               try clear hcz21_2
               try clear hcz21_3
               try clear hcz21_4
               try clear hcz21_5
               try clear hcz21_6
               try clear hcz21_7
               try clear hcz21_8
               try clear hcz21_9
               try clear hcz25_0
               try clear hcz25_1
               try clear hcz25_10
               try clear hcz25_11
               try clear hcz25_2
               try clear hcz25_3
               try clear hcz25_4
               try clear hcz25_5
               try clear hcz25_6
               try clear hcz25_7
               try clear hcz25_8
               try clear hcz25_9
               try clear hcz26_0
               try clear hcz26_1
               try clear hcz26_10
               try clear hcz26_11
               try clear hcz26_2
               try clear hcz26_3
               try clear hcz26_4
               try clear hcz26_5
               try clear hcz26_6
               try clear hcz26_7
               try clear hcz26_8
               try clear hcz26_9
               try clear hcz27_0
               try clear hcz27_1
               try clear hcz27_10
               try clear hcz27_11
               try clear hcz27_2
               try clear hcz27_3
               try clear hcz27_4
               try clear hcz27_5
               try clear hcz27_6
               try clear hcz27_7
               try clear hcz27_8
               try clear hcz27_9
               try clear hcz30_0
               try clear hcz30_1
               try clear hcz30_10
               try clear hcz30_11
               try clear hcz30_2
               try clear hcz30_3
               try clear hcz30_4
               try clear hcz30_5
               try clear hcz30_6
               try clear hcz30_7
               try clear hcz30_8
               try clear hcz30_9
               try clear hcz6_0
               try clear hcz6_1
               try clear hcz6_10
               try clear hcz6_11
               try clear hcz6_2
               try clear hcz6_3
               try clear hcz6_4
               try clear hcz6_5
               try clear hcz6_6
               try clear hcz6_7
               try clear hcz6_8
               try clear hcz6_9
               try clear hcz7_0
               try clear hcz7_1
               try clear hcz7_10
               try clear hcz7_11
               try clear hcz7_2
               try clear hcz7_3
               try clear hcz7_4
               try clear hcz7_5
               try clear hcz7_6
               try clear hcz7_7
               try clear hcz7_8
               try clear hcz7_9
               try clear hfz11_0
               try clear hfz11_1
               try clear hfz11_10
               try clear hfz11_11
               try clear hfz11_2
               try clear hfz11_3
               try clear hfz11_4
               try clear hfz11_5
               try clear hfz11_6
               try clear hfz11_7
               try clear hfz11_8
               try clear hfz11_9
               try clear hfz13_0
               try clear hfz13_1
               try clear hfz13_10
               try clear hfz13_11
               try clear hfz13_2
               try clear hfz13_3
               try clear hfz13_4
               try clear hfz13_5
               try clear hfz13_6
               try clear hfz13_7
               try clear hfz13_8
               try clear hfz13_9
               try clear hfz15_0
               try clear hfz15_1
               try clear hfz15_10
               try clear hfz15_11
               try clear hfz15_2
               try clear hfz15_3
               try clear hfz15_4
               try clear hfz15_5
               try clear hfz15_6
               try clear hfz15_7
               try clear hfz15_8
               try clear hfz15_9
               try clear hfz16_0
               try clear hfz16_1
               try clear hfz16_10
               try clear hfz16_11
               try clear hfz16_2
               try clear hfz16_3
               try clear hfz16_4
               try clear hfz16_5
               try clear hfz16_6
               try clear hfz16_7
               try clear hfz16_8
               try clear hfz16_9
               try clear hfz21_0
               try clear hfz21_1
               try clear hfz21_10
               try clear hfz21_11
               try clear hfz21_2
               try clear hfz21_3
               try clear hfz21_4
               try clear hfz21_5
               try clear hfz21_6
               try clear hfz21_7
               try clear hfz21_8
               try clear hfz21_9
               try clear hfz25_0
               try clear hfz25_1
               try clear hfz25_10
               try clear hfz25_11
               try clear hfz25_2
               try clear hfz25_3
               try clear hfz25_4
               try clear hfz25_5
               try clear hfz25_6
               try clear hfz25_7
               try clear hfz25_8
               try clear hfz25_9
               try clear hfz26_0
               try clear hfz26_1
               try clear hfz26_10
               try clear hfz26_11
               try clear hfz26_2
               try clear hfz26_3
               try clear hfz26_4
               try clear hfz26_5
               try clear hfz26_6
               try clear hfz26_7
               try clear hfz26_8
               try clear hfz26_9
               try clear hfz27_0
               try clear hfz27_1
               try clear hfz27_10
               try clear hfz27_11
               try clear hfz27_2
               try clear hfz27_3
               try clear hfz27_4
               try clear hfz27_5
               try clear hfz27_6
               try clear hfz27_7
               try clear hfz27_8
               try clear hfz27_9
               try clear hfz30_0
               try clear hfz30_1
               try clear hfz30_10
               try clear hfz30_11
               try clear hfz30_2
               try clear hfz30_3
               try clear hfz30_4
               try clear hfz30_5
               try clear hfz30_6
               try clear hfz30_7
               try clear hfz30_8
               try clear hfz30_9
               try clear hfz6_0
               try clear hfz6_1
               try clear hfz6_10
               try clear hfz6_11
               try clear hfz6_2
               try clear hfz6_3
               try clear hfz6_4
               try clear hfz6_5
               try clear hfz6_6
               try clear hfz6_7
               try clear hfz6_8
               try clear hfz6_9
               try clear hfz7_0
               try clear hfz7_1
               try clear hfz7_10
               try clear hfz7_11
               try clear hfz7_2
               try clear hfz7_3
               try clear hfz7_4
               try clear hfz7_5
               try clear hfz7_6
               try clear hfz7_7
               try clear hfz7_8
               try clear hfz7_9
               try clear hx386_0
               try clear hx387_0
               try clear p2
               try clear p386
               try clear p387
               try clear q386
               try clear q387
               obtain ⟨x7_5, rfl, HA, HK5, BK381, HB⟩ := hrel
               cases gk with
               | zero => exact absurd HA.out (by simp [rescindref36_node.l1])
               | succ k5 =>
                have H := HA.out
                clear HA
                simp only [rescindref36_node.l1] at H
                by_cases c40 : x7_5 < (l0_3.length : Int)
                ·rw [if_pos c40] at H
                 have c40b0 : decide (x7_5 < (l0_3.length : Int)) = true := decide_eq_true c40
                 clear c40
                 by_cases c41 : 0 ≤ x7_5
                 ·rw [if_pos c41] at H
                  have c41b0 : decide (0 ≤ x7_5) = true := decide_eq_true c41
                  clear c41
                  replace H := Option.bind_eq_some_iff.mp H
                  obtain ⟨t389, A420, H⟩ := H
                  replace H : (if t389 = 0 then (rescindref36_node.l1 k5 (wrap64 (x7_5 + 1)) a0_0 a0_1 a0_2 l0_3 l0_4 l0_5 l0_6 a0_7 a0_8 a0_9 a0_10 a0_11) else (some t389)) = some r := H
                  have A42 := Aside0.mk A420
                  clear A420
                  by_cases c43 : t389 = 0
                  ·rw [if_pos c43] at H
                   have c43b0 : (t389 == 0) = true := beq_iff_eq.mpr c43
                   have c43b1 : (t389 != 0) = false := bne_eq_false_iff_eq.mpr c43
                   clear c43
                   have H' := Aside0.mk H
                   clear H
                   have hcz44_0 : wr.cell? ⟨gb381, 0, none⟩ = some (.int .i64 a0_0) := (blk_cell BK381.out 0).trans rfl
                   have hcz44_1 : wr.cell? ⟨gb381, 1, none⟩ = some (.int .i64 a0_1) := (blk_cell BK381.out 1).trans rfl
                   have hcz44_2 : wr.cell? ⟨gb381, 2, none⟩ = some (.int .i64 a0_2) := (blk_cell BK381.out 2).trans rfl
                   have hcz44_3 : wr.cell? ⟨gb381, 3, none⟩ = some (.slice A0_3 l0_3.length c0_3) := (blk_cell BK381.out 3).trans rfl
                   have hcz44_4 : wr.cell? ⟨gb381, 4, none⟩ = some (.slice A0_4 l0_4.length c0_4) := (blk_cell BK381.out 4).trans rfl
                   have hcz44_5 : wr.cell? ⟨gb381, 5, none⟩ = some (.slice A0_5 l0_5.length c0_5) := (blk_cell BK381.out 5).trans rfl
                   have hcz44_6 : wr.cell? ⟨gb381, 6, none⟩ = some (.slice A0_6 l0_6.length c0_6) := (blk_cell BK381.out 6).trans rfl
                   have hcz44_7 : wr.cell? ⟨gb381, 7, none⟩ = some (.int .i64 a0_7) := (blk_cell BK381.out 7).trans rfl
                   have hcz44_8 : wr.cell? ⟨gb381, 8, none⟩ = some (.int .i64 a0_8) := (blk_cell BK381.out 8).trans rfl
                   have hcz44_9 : wr.cell? ⟨gb381, 9, none⟩ = some (.int .i64 a0_9) := (blk_cell BK381.out 9).trans rfl
                   have hcz44_10 : wr.cell? ⟨gb381, 10, none⟩ = some (.int .i64 a0_10) := (blk_cell BK381.out 10).trans rfl
                   have hcz44_11 : wr.cell? ⟨gb381, 11, none⟩ = some (.int .i64 a0_11) := (blk_cell BK381.out 11).trans rfl
                   have hfz44_0 := blk_frozen BK381.out 0
                   have hfz44_1 := blk_frozen BK381.out 1
                   have hfz44_2 := blk_frozen BK381.out 2
                   have hfz44_3 := blk_frozen BK381.out 3
                   have hfz44_4 := blk_frozen BK381.out 4
                   have hfz44_5 := blk_frozen BK381.out 5
                   have hfz44_6 := blk_frozen BK381.out 6
                   have hfz44_7 := blk_frozen BK381.out 7
                   have hfz44_8 := blk_frozen BK381.out 8
                   have hfz44_9 := blk_frozen BK381.out 9
                   have hfz44_10 := blk_frozen BK381.out 10
                   have hfz44_11 := blk_frozen BK381.out 11
                   have p388 : 0 ≤ (x7_5 : Int) := of_decide_eq_true (by first | (with_reducible assumption) | assumption)
                   have q388 : x7_5 < (l0_3.length : Int) := of_decide_eq_true (by first | (with_reducible assumption) | assumption)
                   obtain ⟨ad388, A388_0, c388_0, e388, hx388_0, hl388_0, hi388_0⟩ := at_L3 HR0_3.out x7_5 p388 q388
                   cases e388
                   replace hx388_0 := (HB.out.cell (World.block_lt_of_cell? w _ hx388_0)).trans hx388_0
                   have HR388_0 := Aside0.mk hi388_0
                   have HC388_0 := Aside0.mk hl388_0
                   clear hi388_0 hl388_0
                   replace p388 := eq_true p388
                   replace q388 := eq_true q388
                   go_wp2_with (first | ((with_reducible refine gate_callee (f := 33) rfl ?_); refine goesL_ (some 88) rfl rfl Try.func33 (by kernel_rfl) rfl #[.slice A388_0 (rd_L3 l0_3 x7_5).length c388_0] rfl (by (try simp only [List.map_toArray, List.map_cons, List.map_nil]); first | done | rfl | (simp only [List.length_drop, List.length_take]; rfl)) ?_; (with_reducible refine (rescindref17_Form.calls k5 _ _ (rd_L3 l0_3 x7_5) t389 _ ?side1 ?side2 A42.out).mono ?_); (case side1 => repeat (first | exact (Kd.C_below HR388_0.out HB.out) | (with_reducible refine Kd.C_alloc ?_ _) | (with_reducible refine Kd.C_drewN ?_ _) | (with_reducible refine Kd.C_drew ?_))); (case side2 => exact HC388_0.out); rintro e w45 ⟨rfl, hb⟩; refine ⟨_, rfl, ?_⟩; have n0_ := Aside0.mk (blk_below (g := gb381) (o := .cells #[.int .i64 a0_0, .int .i64 a0_1, .int .i64 a0_2, .slice (some ad388) l0_3.length c0_3, .slice A0_4 l0_4.length c0_4, .slice A0_5 l0_5.length c0_5, .slice A0_6 l0_6.length c0_6, .int .i64 a0_7, .int .i64 a0_8, .int .i64 a0_9, .int .i64 a0_10, .int .i64 a0_11] 40 (0, 0)) (by (with_reducible repeat (first | refine blk_drewN ?_ _ | refine blk_drew ?_ | refine blk_alloc ?_ _)); exact BK381.out) hb); have n1_ := Aside0.mk (below_step (by repeat (first | (with_reducible first | exact HB.out | apply below_alloc | apply pw_below_drewN | apply below_drew1 | refine below_set ?_ GE381.out) | exact HB.out)) hb); clear BK381; clear HB; have BK381 := n0_; have HB := n1_; clear n0_ n1_; (try clear hb); (try clear hb2); (try clear hk); (try clear hi)))
                   go_roundg k5
                   case measure => have := HJ2.out; have := HJ8.out; have := HJ19.out; have := HK4.out; have := HK5.out; omega
                   case rel => exact ⟨(wrap64 (x7_5 + 1)), (by first | rfl | (simp; done) | (simp [*]; done)), H', ⟨by have := HJ2.out; have := HJ8.out; have := HJ19.out; have := HK4.out; have := HK5.out; omega⟩, ⟨by (with_reducible repeat (first | refine blk_drewN ?_ _ | refine blk_drew ?_ | refine blk_alloc ?_ _)); exact BK381.out⟩, ⟨by repeat (first | (with_reducible first | exact HB.out | apply below_alloc | apply pw_below_drewN | apply below_drew1 | refine below_set ?_ GE381.out) | exact HB.out)⟩⟩
                  ·rw [if_neg c43] at H
                   have c43b0 : (t389 == 0) = false := beq_eq_false_iff_ne.mpr c43
                   have c43b1 : (t389 != 0) = true := bne_iff_ne.mpr c43
                   obtain rfl := Option.some.inj H
                   have hcz46_0 : wr.cell? ⟨gb381, 0, none⟩ = some (.int .i64 a0_0) := (blk_cell BK381.out 0).trans rfl
                   have hcz46_1 : wr.cell? ⟨gb381, 1, none⟩ = some (.int .i64 a0_1) := (blk_cell BK381.out 1).trans rfl
                   have hcz46_2 : wr.cell? ⟨gb381, 2, none⟩ = some (.int .i64 a0_2) := (blk_cell BK381.out 2).trans rfl
                   have hcz46_3 : wr.cell? ⟨gb381, 3, none⟩ = some (.slice A0_3 l0_3.length c0_3) := (blk_cell BK381.out 3).trans rfl
                   have hcz46_4 : wr.cell? ⟨gb381, 4, none⟩ = some (.slice A0_4 l0_4.length c0_4) := (blk_cell BK381.out 4).trans rfl
                   have hcz46_5 : wr.cell? ⟨gb381, 5, none⟩ = some (.slice A0_5 l0_5.length c0_5) := (blk_cell BK381.out 5).trans rfl
                   have hcz46_6 : wr.cell? ⟨gb381, 6, none⟩ = some (.slice A0_6 l0_6.length c0_6) := (blk_cell BK381.out 6).trans rfl
                   have hcz46_7 : wr.cell? ⟨gb381, 7, none⟩ = some (.int .i64 a0_7) := (blk_cell BK381.out 7).trans rfl
                   have hcz46_8 : wr.cell? ⟨gb381, 8, none⟩ = some (.int .i64 a0_8) := (blk_cell BK381.out 8).trans rfl
                   have hcz46_9 : wr.cell? ⟨gb381, 9, none⟩ = some (.int .i64 a0_9) := (blk_cell BK381.out 9).trans rfl
                   have hcz46_10 : wr.cell? ⟨gb381, 10, none⟩ = some (.int .i64 a0_10) := (blk_cell BK381.out 10).trans rfl
                   have hcz46_11 : wr.cell? ⟨gb381, 11, none⟩ = some (.int .i64 a0_11) := (blk_cell BK381.out 11).trans rfl
                   have hfz46_0 := blk_frozen BK381.out 0
                   have hfz46_1 := blk_frozen BK381.out 1
                   have hfz46_2 := blk_frozen BK381.out 2
                   have hfz46_3 := blk_frozen BK381.out 3
                   have hfz46_4 := blk_frozen BK381.out 4
                   have hfz46_5 := blk_frozen BK381.out 5
                   have hfz46_6 := blk_frozen BK381.out 6
                   have hfz46_7 := blk_frozen BK381.out 7
                   have hfz46_8 := blk_frozen BK381.out 8
                   have hfz46_9 := blk_frozen BK381.out 9
                   have hfz46_10 := blk_frozen BK381.out 10
                   have hfz46_11 := blk_frozen BK381.out 11
                   have p388 : 0 ≤ (x7_5 : Int) := of_decide_eq_true (by first | (with_reducible assumption) | assumption)
                   have q388 : x7_5 < (l0_3.length : Int) := of_decide_eq_true (by first | (with_reducible assumption) | assumption)
                   obtain ⟨ad388, A388_0, c388_0, e388, hx388_0, hl388_0, hi388_0⟩ := at_L3 HR0_3.out x7_5 p388 q388
                   cases e388
                   replace hx388_0 := (HB.out.cell (World.block_lt_of_cell? w _ hx388_0)).trans hx388_0
                   have HR388_0 := Aside0.mk hi388_0
                   have HC388_0 := Aside0.mk hl388_0
                   clear hi388_0 hl388_0
                   replace p388 := eq_true p388
                   replace q388 := eq_true q388
                   go_wp2_with (first | ((with_reducible refine gate_callee (f := 33) rfl ?_); refine goesL_ (some 88) rfl rfl Try.func33 (by kernel_rfl) rfl #[.slice A388_0 (rd_L3 l0_3 x7_5).length c388_0] rfl (by (try simp only [List.map_toArray, List.map_cons, List.map_nil]); first | done | rfl | (simp only [List.length_drop, List.length_take]; rfl)) ?_; (with_reducible refine (rescindref17_Form.calls k5 _ _ (rd_L3 l0_3 x7_5) t389 _ ?side1 ?side2 A42.out).mono ?_); (case side1 => repeat (first | exact (Kd.C_below HR388_0.out HB.out) | (with_reducible refine Kd.C_alloc ?_ _) | (with_reducible refine Kd.C_drewN ?_ _) | (with_reducible refine Kd.C_drew ?_))); (case side2 => exact HC388_0.out); rintro e w47 ⟨rfl, hb⟩; refine ⟨_, rfl, ?_⟩; have n0_ := Aside0.mk (blk_below (g := gb381) (o := .cells #[.int .i64 a0_0, .int .i64 a0_1, .int .i64 a0_2, .slice (some ad388) l0_3.length c0_3, .slice A0_4 l0_4.length c0_4, .slice A0_5 l0_5.length c0_5, .slice A0_6 l0_6.length c0_6, .int .i64 a0_7, .int .i64 a0_8, .int .i64 a0_9, .int .i64 a0_10, .int .i64 a0_11] 40 (0, 0)) (by (with_reducible repeat (first | refine blk_drewN ?_ _ | refine blk_drew ?_ | refine blk_alloc ?_ _)); exact BK381.out) hb); have n1_ := Aside0.mk (below_step (by repeat (first | (with_reducible first | exact HB.out | apply below_alloc | apply pw_below_drewN | apply below_drew1 | refine below_set ?_ GE381.out) | exact HB.out)) hb); clear BK381; clear HB; have BK381 := n0_; have HB := n1_; clear n0_ n1_; (try clear hb); (try clear hb2); (try clear hk); (try clear hi)))
                   go_ret
                   exact ⟨by first | rfl | (simp [errW_none, errW_some] <;> rfl) | (simp [*, errW_none, errW_some] <;> rfl), by repeat (first | (with_reducible first | exact HB.out | apply below_alloc | apply pw_below_drewN | apply below_drew1 | refine below_set ?_ GE381.out) | exact HB.out)⟩
                 ·rw [if_neg c41] at H
                  exact absurd H (by simp)
                ·rw [if_neg c40] at H
                 have c40b0 : decide (x7_5 < (l0_3.length : Int)) = false := decide_eq_false c40
                 clear c40
                 obtain rfl := Option.some.inj H
                 have hcz48_0 : wr.cell? ⟨gb381, 0, none⟩ = some (.int .i64 a0_0) := (blk_cell BK381.out 0).trans rfl
                 have hcz48_1 : wr.cell? ⟨gb381, 1, none⟩ = some (.int .i64 a0_1) := (blk_cell BK381.out 1).trans rfl
                 have hcz48_2 : wr.cell? ⟨gb381, 2, none⟩ = some (.int .i64 a0_2) := (blk_cell BK381.out 2).trans rfl
                 have hcz48_3 : wr.cell? ⟨gb381, 3, none⟩ = some (.slice A0_3 l0_3.length c0_3) := (blk_cell BK381.out 3).trans rfl
                 have hcz48_4 : wr.cell? ⟨gb381, 4, none⟩ = some (.slice A0_4 l0_4.length c0_4) := (blk_cell BK381.out 4).trans rfl
                 have hcz48_5 : wr.cell? ⟨gb381, 5, none⟩ = some (.slice A0_5 l0_5.length c0_5) := (blk_cell BK381.out 5).trans rfl
                 have hcz48_6 : wr.cell? ⟨gb381, 6, none⟩ = some (.slice A0_6 l0_6.length c0_6) := (blk_cell BK381.out 6).trans rfl
                 have hcz48_7 : wr.cell? ⟨gb381, 7, none⟩ = some (.int .i64 a0_7) := (blk_cell BK381.out 7).trans rfl
                 have hcz48_8 : wr.cell? ⟨gb381, 8, none⟩ = some (.int .i64 a0_8) := (blk_cell BK381.out 8).trans rfl
                 have hcz48_9 : wr.cell? ⟨gb381, 9, none⟩ = some (.int .i64 a0_9) := (blk_cell BK381.out 9).trans rfl
                 have hcz48_10 : wr.cell? ⟨gb381, 10, none⟩ = some (.int .i64 a0_10) := (blk_cell BK381.out 10).trans rfl
                 have hcz48_11 : wr.cell? ⟨gb381, 11, none⟩ = some (.int .i64 a0_11) := (blk_cell BK381.out 11).trans rfl
                 have hfz48_0 := blk_frozen BK381.out 0
                 have hfz48_1 := blk_frozen BK381.out 1
                 have hfz48_2 := blk_frozen BK381.out 2
                 have hfz48_3 := blk_frozen BK381.out 3
                 have hfz48_4 := blk_frozen BK381.out 4
                 have hfz48_5 := blk_frozen BK381.out 5
                 have hfz48_6 := blk_frozen BK381.out 6
                 have hfz48_7 := blk_frozen BK381.out 7
                 have hfz48_8 := blk_frozen BK381.out 8
                 have hfz48_9 := blk_frozen BK381.out 9
                 have hfz48_10 := blk_frozen BK381.out 10
                 have hfz48_11 := blk_frozen BK381.out 11
                 go_wp2
                 go_ret
                 exact ⟨by first | rfl | (simp [errW_none, errW_some] <;> rfl) | (simp [*, errW_none, errW_some] <;> rfl), by repeat (first | (with_reducible first | exact HB.out | apply below_alloc | apply pw_below_drewN | apply below_drew1 | refine below_set ?_ GE381.out) | exact HB.out)⟩
       ·replace c19 := Bool.eq_false_iff.mpr c19
        subst c19
        have H1 : (some 2) = some r := by rw [if_neg (show ¬ (false = true) by decide)] at H; exact H
        clear H
        have H := H1
        clear H1
        obtain rfl := Option.some.inj H
        have hcz49_0 : wc.cell? ⟨gb381, 0, none⟩ = some (.int .i64 a0_0) := (blk_cell BK381.out 0).trans rfl
        have hcz49_1 : wc.cell? ⟨gb381, 1, none⟩ = some (.int .i64 a0_1) := (blk_cell BK381.out 1).trans rfl
        have hcz49_2 : wc.cell? ⟨gb381, 2, none⟩ = some (.int .i64 a0_2) := (blk_cell BK381.out 2).trans rfl
        have hcz49_3 : wc.cell? ⟨gb381, 3, none⟩ = some (.slice A0_3 l0_3.length c0_3) := (blk_cell BK381.out 3).trans rfl
        have hcz49_4 : wc.cell? ⟨gb381, 4, none⟩ = some (.slice A0_4 l0_4.length c0_4) := (blk_cell BK381.out 4).trans rfl
        have hcz49_5 : wc.cell? ⟨gb381, 5, none⟩ = some (.slice A0_5 l0_5.length c0_5) := (blk_cell BK381.out 5).trans rfl
        have hcz49_6 : wc.cell? ⟨gb381, 6, none⟩ = some (.slice A0_6 l0_6.length c0_6) := (blk_cell BK381.out 6).trans rfl
        have hcz49_7 : wc.cell? ⟨gb381, 7, none⟩ = some (.int .i64 a0_7) := (blk_cell BK381.out 7).trans rfl
        have hcz49_8 : wc.cell? ⟨gb381, 8, none⟩ = some (.int .i64 a0_8) := (blk_cell BK381.out 8).trans rfl
        have hcz49_9 : wc.cell? ⟨gb381, 9, none⟩ = some (.int .i64 a0_9) := (blk_cell BK381.out 9).trans rfl
        have hcz49_10 : wc.cell? ⟨gb381, 10, none⟩ = some (.int .i64 a0_10) := (blk_cell BK381.out 10).trans rfl
        have hcz49_11 : wc.cell? ⟨gb381, 11, none⟩ = some (.int .i64 a0_11) := (blk_cell BK381.out 11).trans rfl
        have hfz49_0 := blk_frozen BK381.out 0
        have hfz49_1 := blk_frozen BK381.out 1
        have hfz49_2 := blk_frozen BK381.out 2
        have hfz49_3 := blk_frozen BK381.out 3
        have hfz49_4 := blk_frozen BK381.out 4
        have hfz49_5 := blk_frozen BK381.out 5
        have hfz49_6 := blk_frozen BK381.out 6
        have hfz49_7 := blk_frozen BK381.out 7
        have hfz49_8 := blk_frozen BK381.out 8
        have hfz49_9 := blk_frozen BK381.out 9
        have hfz49_10 := blk_frozen BK381.out 10
        have hfz49_11 := blk_frozen BK381.out 11
        go_wp2_with (first | ((with_reducible refine gate_callee (f := 31) rfl ?_); refine goesL_ (some 40) rfl rfl Try.func31 (by kernel_rfl) rfl #[.agg #[.int .i64 a0_0, .int .i64 a0_1, .int .i64 a0_2, .slice A0_3 l0_3.length c0_3, .slice A0_4 l0_4.length c0_4, .slice A0_5 l0_5.length c0_5, .slice A0_6 l0_6.length c0_6, .int .i64 a0_7, .int .i64 a0_8, .int .i64 a0_9, .int .i64 a0_10, .int .i64 a0_11]] rfl (by (try simp only [List.map_toArray, List.map_cons, List.map_nil]); first | done | rfl | (simp only [List.length_drop, List.length_take]; rfl)) ?_; (with_reducible refine (rescindref36_fields.calls a0_0 a0_1 a0_2 _ _ l0_3 _ _ l0_4 _ _ l0_5 _ _ l0_6 a0_7 a0_8 a0_9 a0_10 a0_11 false _ ?side1 ?side2 ?side3 ?side4 ?side5 ?side6 ?side7 ?side8 A18.out).mono ?_); (case side1 => repeat (first | exact (Kd.C_below HR0_3.out HB.out) | (with_reducible refine Kd.C_alloc ?_ _) | (with_reducible refine Kd.C_drewN ?_ _) | (with_reducible refine Kd.C_drew ?_))); (case side2 => exact HC0_3.out); (case side3 => repeat (first | exact (Kd.C_below HR0_4.out HB.out) | (with_reducible refine Kd.C_alloc ?_ _) | (with_reducible refine Kd.C_drewN ?_ _) | (with_reducible refine Kd.C_drew ?_))); (case side4 => exact HC0_4.out); (case side5 => repeat (first | exact (Kd.C_below HR0_5.out HB.out) | (with_reducible refine Kd.C_alloc ?_ _) | (with_reducible refine Kd.C_drewN ?_ _) | (with_reducible refine Kd.C_drew ?_))); (case side6 => exact HC0_5.out); (case side7 => repeat (first | exact (Kd.C_below HR0_6.out HB.out) | (with_reducible refine Kd.C_alloc ?_ _) | (with_reducible refine Kd.C_drewN ?_ _) | (with_reducible refine Kd.C_drew ?_))); (case side8 => exact HC0_6.out); rintro e w50 ⟨rfl, hb⟩; refine ⟨_, rfl, ?_⟩; have n0_ := Aside0.mk (blk_below (g := gb381) (o := .cells #[.int .i64 a0_0, .int .i64 a0_1, .int .i64 a0_2, .slice A0_3 l0_3.length c0_3, .slice A0_4 l0_4.length c0_4, .slice A0_5 l0_5.length c0_5, .slice A0_6 l0_6.length c0_6, .int .i64 a0_7, .int .i64 a0_8, .int .i64 a0_9, .int .i64 a0_10, .int .i64 a0_11] 40 (0, 0)) (by (with_reducible repeat (first | refine blk_drewN ?_ _ | refine blk_drew ?_ | refine blk_alloc ?_ _)); exact BK381.out) hb); have n1_ := Aside0.mk (below_step (by repeat (first | (with_reducible first | exact HB.out | apply below_alloc | apply pw_below_drewN | apply below_drew1 | refine below_set ?_ GE381.out) | exact HB.out)) hb); clear BK381; clear HB; have BK381 := n0_; have HB := n1_; clear n0_ n1_; (try clear hb); (try clear hb2); (try clear hk); (try clear hi)))
        go_ret
        exact ⟨by first | rfl | (simp [errW_none, errW_some] <;> rfl) | (simp [*, errW_none, errW_some] <;> rfl), by repeat (first | (with_reducible first | exact HB.out | apply below_alloc | apply pw_below_drewN | apply below_drew1 | refine below_set ?_ GE381.out) | exact HB.out)⟩
end Go.Proofs.Ytpidiibhgfjemaa.PLn
end
section
namespace Go.Proofs.Ytpidiibhgfjemaa.PLn
open Go.Proofs.Ytpidiibhgfjemaa.PLg Go.Proofs.Ytpidiibhgfjemaa.PLh Go.Proofs.Ytpidiibhgfjemaa.PLo Go.Proofs.Ytpidiibhgfjemaa.PLi
open Go.RowKit Go.Proofs.YtpidiibhgfjemaaW.PrintWords Go.Proofs.YtpidiibhgfjemaaW.PrintLast Go.Proofs.YtpidiibhgfjemaaW.PrintMore
attribute [local go_sem] max2_int min2_int max_two min_two max_three min_three max_four min_four
set_option linter.unusedVariables false
set_option linter.unusedSimpArgs false
end Go.Proofs.Ytpidiibhgfjemaa.PLn
end
section
namespace Go.Proofs.Ytpidiibhgfjemaa.PLn
open Go.Proofs.Ytpidiibhgfjemaa.PLg Go.Proofs.Ytpidiibhgfjemaa.PLh Go.Proofs.Ytpidiibhgfjemaa.PLo Go.Proofs.Ytpidiibhgfjemaa.PLi
open Go.RowKit Go.Proofs.YtpidiibhgfjemaaW.PrintWords Go.Proofs.YtpidiibhgfjemaaW.PrintLast Go.Proofs.YtpidiibhgfjemaaW.PrintMore
attribute [local go_sem] max2_int min2_int max_two min_two max_three min_three max_four min_four
set_option linter.unusedVariables false
set_option linter.unusedSimpArgs false
end Go.Proofs.Ytpidiibhgfjemaa.PLn
end
