/- Texts of this claim, put together by a program: LiveJ, LawT, JoinT, RefPairs, LawFW, LawJP, WSized. -/
import Derived.Test.YtmkgecapkeojaaaGreatV13
import Derived.SizedLaws
import Derived.ChangeSlices
set_option linter.unusedVariables false
set_option linter.unusedSimpArgs false
set_option maxHeartbeats 8000000
set_option maxRecDepth 100000
section
namespace Go.Proofs.YtmkgecapkeojaaaGreat.Eg
open Go.Proofs.YtmkgecapkeojaaaGreat Go.Proofs.YtmkgecapkeojaaaGreat.PDa Go.Proofs.YtmkgecapkeojaaaGreat.EvP
open Go.RowKit Go.Proofs.YtmkgecapkeojaaaGreatW.PrintWords Go.Proofs.YtmkgecapkeojaaaGreatW.PrintLast Go.Proofs.YtmkgecapkeojaaaGreatW.PrintMore
open Go.Proofs.YtmkgecapkeojaaaGreat.Stp Go.Proofs.YtmkgecapkeojaaaGreat.Rw
theorem pairs_any (A0 A1 A2 : Option Addr) (c0 c1 c2 : Nat) (l r : List EdP) (x : List Op8) (w : World) (hr0 : Kd.C kE w A0 l.length l) (hr1 : Kd.C kE w A1 r.length r) (hr2 : Kd.C kO w A2 x.length x) (hc2 : x.length <= c2) (hl : PDd.okEs l = true) (hr : PDd.okEs r = true) (hx : PDd.okXs x = true) :
  Calls Tryz.prog 29 #[.slice A0 l.length c0, .slice A1 r.length c1, .slice A2 x.length c2] w (Ans (pairsV (EvP.holdsV x) (EvP.formV x) l r) w) := by
 refine (Pairs_calls (EvP.holdsV x) (EvP.formV x) A0 A1 A2 c0 c1 c2 l r x w hr0 (PDd.okEs_row hl) hr1 (PDd.okEs_row hr) hr2 hc2 (fun _ _ a b ha hb hj => ?_) (EvP.form_E x).get).mono ?_
 ·obtain ⟨⟨c, ec⟩, hc⟩ : ∃ z, joinV a.1 b.1 = z := ⟨_, rfl⟩
  rw [hc] at hj ⊢; simp only at hj; subst hj; obtain ⟨_, _, _, rfl⟩ := joinV_ok hc; obtain ⟨⟨e, he, e1⟩, _⟩ := runs_mem l a ha; obtain ⟨⟨f, hf, f1⟩, _⟩ := runs_mem r b hb; refine (EvP.holds_E x _ ⟨(PDd.okX hl hx e he).x, fun v hv => ?_⟩).get
  rcases List.mem_append.1 hv with hv | hv
  ·exact (PDd.okX hl hx e he).row v (e1 ▸ hv)
  ·exact (PDd.okX hr hx f hf).row v (f1 ▸ hv)
 ·rintro e w' ⟨v, o, ho, rfl, hR, hb⟩
  obtain rfl := pairs_is ho; obtain ⟨A, c, rfl⟩ := Kd.R_slice hR; exact ⟨A, c, rfl, (Kd.R_reads' hR).2.2, (Kd.R_reads' hR).2.1, hb⟩
def v7 : Rw.Vl := ⟨1, 7, ⟨#[]⟩⟩
def a2 : EdP := ⟨[v1], 9, -1⟩
def b1 : EdP := ⟨[v7], 5, 1⟩
def b2 : EdP := ⟨[v7], 12, -1⟩
def jx1 : List Op8 := [⟨1, 1, ⟨#[]⟩⟩]
def jx2 : List Op8 := [⟨3, 0, ⟨#[]⟩⟩, ⟨3, 1, ⟨#[]⟩⟩, ⟨13, 0, ⟨#[]⟩⟩]
def p1 : EdP := ⟨[v1, v7], 5, 1⟩
def p2 : EdP := ⟨[v1, v7], 9, -1⟩
def jt1 : T := .l ⟨1, 1, ⟨#[]⟩⟩
def jt2 : T := .b ⟨13, 0, ⟨#[]⟩⟩ (.l ⟨3, 0, ⟨#[]⟩⟩) (.l ⟨3, 1, ⟨#[]⟩⟩)
theorem jt1_ok : jt1.ok := by
 refine ⟨?_, by decide⟩ ; simp [okW, noT, nilT, takes]
theorem jt2_ok : jt2.ok := by
 refine ⟨?_, by decide, ⟨?_, by decide⟩, ⟨?_, by decide⟩⟩ <;> simp [okW, noT, nilT, takes]
theorem jx1_form : formV jx1 = 0 := by
 have h := parse_fl jt1 jt1_ok [] []; rw [List.append_nil] at h; have e : jt1.fl = jx1 := rfl; unfold formV; rw [if_neg zq34, <- e, h]; rfl
theorem jx2_form : formV jx2 = 0 := by
 have h := parse_fl jt2 jt2_ok [] []; rw [List.append_nil] at h; have e : jt2.fl = jx2 := rfl; unfold formV; rw [if_neg zq34, <- e, h]; rfl
theorem may17 : rowMay [v1, v7] = true := by simp [rowMay, thOf, nilT, v1, v7]
theorem jx1_v : holdsV jx1 [v1, v7] = (true, 0) := by
 have e : jt1.fl = jx1 := rfl; have h : evalV jx1 [v1, v7] = (1, 1, ⟨#[]⟩, 0) := by
  rw [<- e, evalV_T jt1 jt1_ok _ (by rw [e]; exact jx1_form) may17]
  rfl
 unfold holdsV; rw [h]
 rfl
theorem jx2_v : holdsV jx2 [v1, v7] = (false, 0) := by
 have e : jt2.fl = jx2 := rfl; have h : evalV jx2 [v1, v7] = (1, 0, ⟨#[]⟩, 0) := by
  rw [<- e, evalV_T jt2 jt2_ok _ (by rw [e]; exact jx2_form) may17]; simp [T.ev, jt2, evL, evB, v1, v7, compareS, getTh, rd_T65, outV, thVal3, Except.map]; simp only [thO_num]
  rfl
 unfold holdsV; rw [h]
 rfl
theorem runs2 (r : List Rw.Vl) (a b c d : Int) : runsP [⟨r, a, b⟩, ⟨r, c, d⟩] = [(r, [⟨a, b⟩, ⟨c, d⟩])] := by simp [runsP, runAt, eqR_refl, jmpE]
theorem may2 (r : List Rw.Vl) (a b c d : Int) (hr : rowMay r = true) (hm : mayJ [⟨a, b⟩, ⟨c, d⟩] = true) : mayE [⟨r, a, b⟩, ⟨r, c, d⟩] = true := by
 unfold mayE eachP; rw [runs2]; simp only [eachR, lastB, hr, hm]
 rfl
theorem mul59 : bothV (· * ·) [⟨2, 1⟩, ⟨9, -1⟩] [⟨5, 1⟩, ⟨12, -1⟩] = ([⟨5, 1⟩, ⟨9, -1⟩], 0) := by rfl
theorem join17 : joinV [v1] [v7] = ([v1, v7], 0) := by
 unfold joinV; rw [show rowMay [v1] = true from rowMay1 1, show rowMay [v7] = true from rowMay1 7]
 rfl
theorem liveJ (hh : List Rw.Vl -> Bool × Int) (ok : Bool) (h : hh [v1, v7] = (ok, 0)) : pairsV hh 0 [e1, a2] [b1, b2] = (if ok = true then [p1, p2] else [], 0) := by
 have m1 : mayE [e1, a2] = true := may2 [v1] 2 1 9 (-1) (rowMay1 1) rfl; have m2 : mayE [b1, b2] = true := may2 [v7] 5 1 12 (-1) (rowMay1 7) rfl; have m3 : mayE [p1, p2] = true := may2 [v1, v7] 5 1 9 (-1) may17 rfl; have ed : edgesJ hh ([v1], [⟨2, 1⟩, ⟨9, -1⟩]) ([v7], [⟨5, 1⟩, ⟨12, -1⟩]) = (if ok = true then [p1, p2] else [], 0) := by
  unfold edgesJ; simp only [mul59, join17, h]; rw [if_neg zq34, if_neg zq34, if_neg zq34, if_neg zq34]; cases ok
  ·rfl
  ·rw [if_pos rfl, if_pos rfl]
   unfold buildP; rw [may17]
   rfl
 unfold pairsV; rw [m1, m2, if_pos (by rfl), if_neg zq34, show runsP [e1, a2] = [([v1], [⟨2, 1⟩, ⟨9, -1⟩])] from runs2 _ _ _ _ _, show runsP [b1, b2] = [([v7], [⟨5, 1⟩, ⟨12, -1⟩])] from runs2 _ _ _ _ _]; have ac : accR (edgesJ hh) [] (pairsL [([v1], [⟨2, 1⟩, ⟨9, -1⟩])] [([v7], [⟨5, 1⟩, ⟨12, -1⟩])]) = (if ok = true then [p1, p2] else [], 0) := by
  simp only [pairsL, List.flatMap_cons, List.flatMap_nil, List.map_cons, List.map_nil, List.append_nil, accR, ed, List.nil_append]; rw [if_neg zq34]
 rw [ac, if_neg zq30]; cases ok
 ·rfl
 ·exact ((mayE_iff _).1 m3).norm
theorem factJ1 : pairsV (holdsV jx1) (formV jx1) [e1, a2] [b1, b2] = ([p1, p2], 0) := by rw [jx1_form]; exact liveJ _ true jx1_v
theorem factJ2 : pairsV (holdsV jx2) (formV jx2) [e1, a2] [b1, b2] = ([], 0) := by rw [jx2_form]; exact liveJ _ false jx2_v
theorem liveJ_calls (w : World) : Calls Tryz.prog 28 #[] w fun e w' => e = .returned (.bool true) /\ Below w.heap.size w w' := by
 go_enter Tryz.func28, Tryz.ntmps28
 go_wp2_with (go_at_call 29; refine hold_intro ?_)
 refine ⟨?_⟩; obtain ⟨W1, hW1⟩ : ∃ W1, ((((((w.alloc (.cells #[.int .i64 1, .int .i64 1, .string ⟨#[]⟩] 65 (0, 0))).alloc (.cells #[.int .i64 1, .int .i64 1, .string ⟨#[]⟩] 65 (0, 0))).alloc (.cells #[.slice (some ⟨w.heap.size, 0, none⟩) 1 1, .int .i64 2, .int .i64 1, .slice (some ⟨w.heap.size + 1, 0, none⟩) 1 1, .int .i64 9, .int .i64 (-1)] 41 (0, 0))).alloc (.cells #[.int .i64 1, .int .i64 7, .string ⟨#[]⟩] 65 (0, 0))).alloc (.cells #[.int .i64 1, .int .i64 7, .string ⟨#[]⟩] 65 (0, 0))).alloc (.cells #[.slice (some ⟨w.heap.size + 1 + 1 + 1, 0, none⟩) 1 1, .int .i64 5, .int .i64 1, .slice (some ⟨w.heap.size + 1 + 1 + 1 + 1, 0, none⟩) 1 1, .int .i64 12, .int .i64 (-1)] 41 (0, 0))).alloc (.cells #[.int .i64 1, .int .i64 1, .string ⟨#[]⟩] 68 (0, 0)) = W1 := ⟨_, rfl⟩
 have hsW1 : W1.heap.size = w.heap.size + 7 := by rw [<- hW1]; simp
 have hbW1 : Below w.heap.size w W1 := by rw [<- hW1]; exact below_alloc (below_alloc (below_alloc (below_alloc (below_alloc (below_alloc (below_alloc (Below.refl _ w) _) _) _) _) _) _) _
 have k0 : W1.heap[w.heap.size]? = some (.cells #[.int .i64 1, .int .i64 1, .string ⟨#[]⟩] 65 (0, 0)) := by
  have h1 := blk_new (w) (.cells #[.int .i64 1, .int .i64 1, .string ⟨#[]⟩] 65 (0, 0)); rw [<- hW1]; exact blk_alloc (blk_alloc (blk_alloc (blk_alloc (blk_alloc (blk_alloc (h1) _) _) _) _) _) _
 have k1 : W1.heap[w.heap.size + 1]? = some (.cells #[.int .i64 1, .int .i64 1, .string ⟨#[]⟩] 65 (0, 0)) := by
  have h1 := blk_new (w.alloc (.cells #[.int .i64 1, .int .i64 1, .string ⟨#[]⟩] 65 (0, 0))) (.cells #[.int .i64 1, .int .i64 1, .string ⟨#[]⟩] 65 (0, 0)); rw [World.size_alloc] at h1; rw [<- hW1]; exact blk_alloc (blk_alloc (blk_alloc (blk_alloc (blk_alloc (h1) _) _) _) _) _
 have k2 : W1.heap[w.heap.size + 1 + 1]? = some (.cells #[.slice (some ⟨w.heap.size, 0, none⟩) 1 1, .int .i64 2, .int .i64 1, .slice (some ⟨w.heap.size + 1, 0, none⟩) 1 1, .int .i64 9, .int .i64 (-1)] 41 (0, 0)) := by
  have h1 := blk_new ((w.alloc (.cells #[.int .i64 1, .int .i64 1, .string ⟨#[]⟩] 65 (0, 0))).alloc (.cells #[.int .i64 1, .int .i64 1, .string ⟨#[]⟩] 65 (0, 0))) (.cells #[.slice (some ⟨w.heap.size, 0, none⟩) 1 1, .int .i64 2, .int .i64 1, .slice (some ⟨w.heap.size + 1, 0, none⟩) 1 1, .int .i64 9, .int .i64 (-1)] 41 (0, 0)); rw [World.size_alloc, World.size_alloc] at h1; rw [<- hW1]; exact blk_alloc (blk_alloc (blk_alloc (blk_alloc (h1) _) _) _) _
 have k3 : W1.heap[w.heap.size + 1 + 1 + 1]? = some (.cells #[.int .i64 1, .int .i64 7, .string ⟨#[]⟩] 65 (0, 0)) := by
  have h1 := blk_new (((w.alloc (.cells #[.int .i64 1, .int .i64 1, .string ⟨#[]⟩] 65 (0, 0))).alloc (.cells #[.int .i64 1, .int .i64 1, .string ⟨#[]⟩] 65 (0, 0))).alloc (.cells #[.slice (some ⟨w.heap.size, 0, none⟩) 1 1, .int .i64 2, .int .i64 1, .slice (some ⟨w.heap.size + 1, 0, none⟩) 1 1, .int .i64 9, .int .i64 (-1)] 41 (0, 0))) (.cells #[.int .i64 1, .int .i64 7, .string ⟨#[]⟩] 65 (0, 0)); rw [World.size_alloc, World.size_alloc, World.size_alloc] at h1; rw [<- hW1]; exact blk_alloc (blk_alloc (blk_alloc (h1) _) _) _
 have k4 : W1.heap[w.heap.size + 1 + 1 + 1 + 1]? = some (.cells #[.int .i64 1, .int .i64 7, .string ⟨#[]⟩] 65 (0, 0)) := by
  have h1 := blk_new ((((w.alloc (.cells #[.int .i64 1, .int .i64 1, .string ⟨#[]⟩] 65 (0, 0))).alloc (.cells #[.int .i64 1, .int .i64 1, .string ⟨#[]⟩] 65 (0, 0))).alloc (.cells #[.slice (some ⟨w.heap.size, 0, none⟩) 1 1, .int .i64 2, .int .i64 1, .slice (some ⟨w.heap.size + 1, 0, none⟩) 1 1, .int .i64 9, .int .i64 (-1)] 41 (0, 0))).alloc (.cells #[.int .i64 1, .int .i64 7, .string ⟨#[]⟩] 65 (0, 0))) (.cells #[.int .i64 1, .int .i64 7, .string ⟨#[]⟩] 65 (0, 0)); rw [World.size_alloc, World.size_alloc, World.size_alloc, World.size_alloc] at h1; rw [<- hW1]; exact blk_alloc (blk_alloc (h1) _) _
 have k5 : W1.heap[w.heap.size + 1 + 1 + 1 + 1 + 1]? = some (.cells #[.slice (some ⟨w.heap.size + 1 + 1 + 1, 0, none⟩) 1 1, .int .i64 5, .int .i64 1, .slice (some ⟨w.heap.size + 1 + 1 + 1 + 1, 0, none⟩) 1 1, .int .i64 12, .int .i64 (-1)] 41 (0, 0)) := by
  have h1 := blk_new (((((w.alloc (.cells #[.int .i64 1, .int .i64 1, .string ⟨#[]⟩] 65 (0, 0))).alloc (.cells #[.int .i64 1, .int .i64 1, .string ⟨#[]⟩] 65 (0, 0))).alloc (.cells #[.slice (some ⟨w.heap.size, 0, none⟩) 1 1, .int .i64 2, .int .i64 1, .slice (some ⟨w.heap.size + 1, 0, none⟩) 1 1, .int .i64 9, .int .i64 (-1)] 41 (0, 0))).alloc (.cells #[.int .i64 1, .int .i64 7, .string ⟨#[]⟩] 65 (0, 0))).alloc (.cells #[.int .i64 1, .int .i64 7, .string ⟨#[]⟩] 65 (0, 0))) (.cells #[.slice (some ⟨w.heap.size + 1 + 1 + 1, 0, none⟩) 1 1, .int .i64 5, .int .i64 1, .slice (some ⟨w.heap.size + 1 + 1 + 1 + 1, 0, none⟩) 1 1, .int .i64 12, .int .i64 (-1)] 41 (0, 0)); rw [World.size_alloc, World.size_alloc, World.size_alloc, World.size_alloc, World.size_alloc] at h1; rw [<- hW1]; exact blk_alloc (h1) _
 have k6 : W1.heap[w.heap.size + 1 + 1 + 1 + 1 + 1 + 1]? = some (.cells #[.int .i64 1, .int .i64 1, .string ⟨#[]⟩] 68 (0, 0)) := by
  have h1 := blk_new ((((((w.alloc (.cells #[.int .i64 1, .int .i64 1, .string ⟨#[]⟩] 65 (0, 0))).alloc (.cells #[.int .i64 1, .int .i64 1, .string ⟨#[]⟩] 65 (0, 0))).alloc (.cells #[.slice (some ⟨w.heap.size, 0, none⟩) 1 1, .int .i64 2, .int .i64 1, .slice (some ⟨w.heap.size + 1, 0, none⟩) 1 1, .int .i64 9, .int .i64 (-1)] 41 (0, 0))).alloc (.cells #[.int .i64 1, .int .i64 7, .string ⟨#[]⟩] 65 (0, 0))).alloc (.cells #[.int .i64 1, .int .i64 7, .string ⟨#[]⟩] 65 (0, 0))).alloc (.cells #[.slice (some ⟨w.heap.size + 1 + 1 + 1, 0, none⟩) 1 1, .int .i64 5, .int .i64 1, .slice (some ⟨w.heap.size + 1 + 1 + 1 + 1, 0, none⟩) 1 1, .int .i64 12, .int .i64 (-1)] 41 (0, 0))) (.cells #[.int .i64 1, .int .i64 1, .string ⟨#[]⟩] 68 (0, 0)); rw [World.size_alloc, World.size_alloc, World.size_alloc, World.size_alloc, World.size_alloc, World.size_alloc] at h1; rw [<- hW1]; exact h1
 rw [hW1]; have r1 : ∀ (W2 : World) (b : Nat) (v : Rw.Vl), W2.heap[b]? = some (.cells #[.int .i64 v.f0, .int .i64 v.f1, .string v.f2] 65 (0, 0)) -> Kd.C kV W2 (some ⟨b, 0, none⟩) 1 [v] := fun W2 b v h => by
  refine C_lit (d := kV) (ps := [] ++ [v]) (inner := [] ++ [.int .i64 v.f0, .int .i64 v.f1, .string v.f2]) rfl h rfl rfl zq34 (Reps.snoc (ps := []) (p := v) (Reps.none (kV.K W2) kV.sz) (k65_mk W2 v) rfl)
 have hC : Kd.C kE W1 (some ⟨w.heap.size + 1 + 1, 0, none⟩) 2 [e1, a2] :=
  C_lit (d := kE) (ps := [] ++ [e1] ++ [a2]) (inner := [] ++ [.slice (some ⟨w.heap.size, 0, none⟩) 1 1, .int .i64 2, .int .i64 1] ++ [.slice (some ⟨w.heap.size + 1, 0, none⟩) 1 1, .int .i64 9, .int .i64 (-1)]) rfl k2 rfl rfl zq34
   (((Reps.none (kE.K W1) kE.sz).snoc (p := e1) (k41_mk W1 e1 (Nat.le_refl 1) (r1 W1 _ v1 k0)) rfl).snoc (p := a2) (k41_mk W1 a2 (Nat.le_refl 1) (r1 W1 _ v1 k1)) rfl)
 have hD : Kd.C kE W1 (some ⟨w.heap.size + 1 + 1 + 1 + 1 + 1, 0, none⟩) 2 [b1, b2] :=
  C_lit (d := kE) (ps := [] ++ [b1] ++ [b2]) (inner := [] ++ [.slice (some ⟨w.heap.size + 1 + 1 + 1, 0, none⟩) 1 1, .int .i64 5, .int .i64 1] ++ [.slice (some ⟨w.heap.size + 1 + 1 + 1 + 1, 0, none⟩) 1 1, .int .i64 12, .int .i64 (-1)]) rfl k5 rfl rfl zq34
   (((Reps.none (kE.K W1) kE.sz).snoc (p := b1) (k41_mk W1 b1 (Nat.le_refl 1) (r1 W1 _ v7 k3)) rfl).snoc (p := b2) (k41_mk W1 b2 (Nat.le_refl 1) (r1 W1 _ v7 k4)) rfl)
 have hX : Kd.C kO W1 (some ⟨w.heap.size + 1 + 1 + 1 + 1 + 1 + 1, 0, none⟩) 1 jx1 :=
  C_lit (d := kO) (ps := [] ++ [(⟨1, 1, ⟨#[]⟩⟩ : Op8)]) (inner := [] ++ [.int .i64 1, .int .i64 1, .string ⟨#[]⟩]) rfl k6 rfl rfl zq34
   ((Reps.none (kO.K W1) kO.sz).snoc (p := ⟨1, 1, ⟨#[]⟩⟩) (k68_mk W1 _) rfl)
 have HC := Hd hC; have HD := Hd hD; have HB1 := Hd hbW1; have FC := Hd (pairs_any (some ⟨w.heap.size + 1 + 1, 0, none⟩) (some ⟨w.heap.size + 1 + 1 + 1 + 1 + 1, 0, none⟩) (some ⟨w.heap.size + 1 + 1 + 1 + 1 + 1 + 1, 0, none⟩) 2 2 1 [e1, a2] [b1, b2] jx1 W1 hC hD hX (Nat.le_refl 1) (by rfl) (by rfl) (by rfl)); rw [factJ1] at FC; clear hC hD hX r1 k0 k1 k2 k3 k4 k5 k6 hW1 hsW1 hbW1; refine FC.out.mono ?_; rintro e w2 ⟨Aa, ca, rfl, hRa, hca, hb2⟩; have HRA := Hd hRa; have HB2 := Hd (HB1.out.trans (hb2.mono HB1.out.size)); have HC2 := Hd (Kd.C_below HC.out hb2); have HD2 := Hd (Kd.C_below HD.out hb2); clear hRa hb2 hca HB1 HC HD FC
 go_wp2_with (go_at_call 29; refine hold_intro ?_)
 refine ⟨?_⟩; obtain ⟨W3, hW3⟩ : ∃ W3, w2.alloc (.cells #[.int .i64 3, .int .i64 0, .string ⟨#[]⟩, .int .i64 3, .int .i64 1, .string ⟨#[]⟩, .int .i64 13, .int .i64 0, .string ⟨#[]⟩] 68 (0, 0)) = W3 := ⟨_, rfl⟩
 have hsW3 : W3.heap.size = w2.heap.size + 1 := by rw [<- hW3]; simp
 have hbW3 : Below w2.heap.size w2 W3 := by rw [<- hW3]; exact below_alloc (Below.refl _ w2) _
 have k0 : W3.heap[w2.heap.size]? = some (.cells #[.int .i64 3, .int .i64 0, .string ⟨#[]⟩, .int .i64 3, .int .i64 1, .string ⟨#[]⟩, .int .i64 13, .int .i64 0, .string ⟨#[]⟩] 68 (0, 0)) := by
  have h1 := blk_new (w2) (.cells #[.int .i64 3, .int .i64 0, .string ⟨#[]⟩, .int .i64 3, .int .i64 1, .string ⟨#[]⟩, .int .i64 13, .int .i64 0, .string ⟨#[]⟩] 68 (0, 0)); rw [<- hW3]; exact h1
 rw [hW3]; have hX : Kd.C kO W3 (some ⟨w2.heap.size, 0, none⟩) 3 jx2 :=
  C_lit (d := kO) (ps := [] ++ [(⟨3, 0, ⟨#[]⟩⟩ : Op8)] ++ [⟨3, 1, ⟨#[]⟩⟩] ++ [⟨13, 0, ⟨#[]⟩⟩]) (inner := [] ++ [.int .i64 3, .int .i64 0, .string ⟨#[]⟩] ++ [.int .i64 3, .int .i64 1, .string ⟨#[]⟩] ++ [.int .i64 13, .int .i64 0, .string ⟨#[]⟩]) rfl k0 rfl rfl zq34
   ((((Reps.none (kO.K W3) kO.sz).snoc (p := ⟨3, 0, ⟨#[]⟩⟩) (k68_mk W3 _) rfl).snoc (p := ⟨3, 1, ⟨#[]⟩⟩) (k68_mk W3 _) rfl).snoc (p := ⟨13, 0, ⟨#[]⟩⟩) (k68_mk W3 _) rfl)
 have HB3 := Hd hbW3; have FD := Hd (pairs_any (some ⟨w.heap.size + 1 + 1, 0, none⟩) (some ⟨w.heap.size + 1 + 1 + 1 + 1 + 1, 0, none⟩) (some ⟨w2.heap.size, 0, none⟩) 2 2 3 [e1, a2] [b1, b2] jx2 W3 (Kd.C_below HC2.out hbW3) (Kd.C_below HD2.out hbW3) hX (Nat.le_refl 3) (by rfl) (by rfl) (by rfl)); rw [factJ2] at FD; clear hX k0 hW3 hsW3 hbW3 HC2 HD2; refine FD.out.mono ?_; rintro e w4 ⟨Ab, cb, rfl, hRb, hcb, hb4⟩; have HB4 := Hd ((HB2.out.trans (HB3.out.mono HB2.out.size)).trans (hb4.mono (Nat.le_trans HB2.out.size HB3.out.size))); have hra := Kd.C_below (Kd.C_below HRA.out HB3.out) hb4; obtain ⟨ad, Ay, cy, ea, y0, y1, y2, y3, y4⟩ := at_T41 hra (0 : Int) zq34 zq34; obtain ⟨ad2, Az, cz, eb, z0, z1, z2, z3, z4⟩ := at_T41 hra (1 : Int) zq34 zq34; cases ea; cases eb; have Y0 : w4.cell? ad = some (.slice Ay 2 cy) := by simpa [Addr.add, rd_T41, p1] using y0
 have Y1 : w4.cell? ⟨ad.block, ad.off + 1, none⟩ = some (.int .i64 5) := by simpa [Addr.add, rd_T41, p1] using y1
 have Z1 : w4.cell? ⟨ad.block, ad.off + 3 + 1, none⟩ = some (.int .i64 9) := by simpa [Addr.add, rd_T41, p2] using z1
 clear y0 y1 y2 y3 y4 z0 z1 z2 z3 z4 hra HRA HB2 HB3 hb4 hRb hcb FD; have e0 : ad.add 0 = ad := add0 ad; go_wp2; go_ret; exact ⟨rfl, HB4.out⟩
end Go.Proofs.YtmkgecapkeojaaaGreat.Eg
end
section
namespace Go.Proofs.YtmkgecapkeojaaaGreat.Eg
open Go.Proofs.YtmkgecapkeojaaaGreat Go.Proofs.YtmkgecapkeojaaaGreat.PDa
open Go.RowKit Go.Proofs.YtmkgecapkeojaaaGreatW.PrintWords Go.Proofs.YtmkgecapkeojaaaGreat.Stp Go.Proofs.YtmkgecapkeojaaaGreat.Rw Go.Proofs.YtmkgecapkeojaaaGreat.Cmp Go.Proofs.YtmkgecapkeojaaaGreat.Canon
theorem join06 (a b : List Vl) : EvP.U (fun k => r06_Join.f k a b) (joinV a b) := by
 unfold r06_Join.f joinV; refine EvP.U.bind (EvP.mayR a) ?_; cases ha : rowMay a with
 | false =>
  refine EvP.U.neg (by decide) (EvP.U.succ ?_); simp only [r06_Join.j0]; exact EvP.U.pos (by first | rfl | trivial) (EvP.U.const (by rw [if_neg (by simp)]))
 | true =>
  refine EvP.U.pos (by first | rfl | trivial) (EvP.U.bind (EvP.mayR b) ?_); have la := rowMay_len ha; cases hb : rowMay b with
  | false =>
   refine EvP.U.succ ?_; simp only [r06_Join.j0]; exact EvP.U.pos (by first | rfl | trivial) (EvP.U.const (by rw [if_neg (by simp)]))
  | true =>
   have lb := rowMay_len hb; refine EvP.U.succ ?_; simp only [r06_Join.j0]; refine EvP.U.neg (by decide) ?_; have hw : wrap64 ((a.length : Int) + (b.length : Int)) = (a.length : Int) + (b.length : Int) := by rw [show (a.length : Int) + (b.length : Int) = ((a.length + b.length : Nat) : Int) by omega]; exact EvP.w64 (by omega) (by omega)
   rw [hw]
   by_cases h8 : 8 < a.length + b.length
   ·exact EvP.U.pos (by omega) (EvP.U.const (by rw [if_pos (by rfl), if_pos h8]))
   ·refine EvP.U.neg (by omega) (EvP.U.const ?_)
    rw [if_pos (by rfl), if_neg h8]; simp; omega
end Go.Proofs.YtmkgecapkeojaaaGreat.Eg
end
section
namespace Go.Proofs.YtmkgecapkeojaaaGreat.Eg
open Go.Proofs.YtmkgecapkeojaaaGreat Go.Proofs.YtmkgecapkeojaaaGreat.PDa
open Go.RowKit Go.Proofs.YtmkgecapkeojaaaGreatW.PrintWords Go.Proofs.YtmkgecapkeojaaaGreatW.PrintLast Go.Proofs.YtmkgecapkeojaaaGreatW.PrintMore
open Go.Proofs.YtmkgecapkeojaaaGreat.Stp Go.Proofs.YtmkgecapkeojaaaGreat.Rw
theorem both_len (op : Int -> Int -> Int) : ∀ (k : Nat) (f g : List Jp) (a b was : Int), (bothL op k f g a b was).length <= k
 | 0, f, g, a, b, was => by rw [bothL]; exact Nat.le_refl _
 | k + 1, f, g, a, b, was => by
  rw [bothL]
  split
  ·exact Nat.zero_le _
  ·have := both_len op k (popL f (mAt f g)) (popL g (mAt f g)) (a + popA f (mAt f g)) (b + popA g (mAt f g)) (op (a + popA f (mAt f g)) (b + popA g (mAt f g)))
   rw [List.length_append]; have h2 : (stJ (mAt f g) (op (a + popA f (mAt f g)) (b + popA g (mAt f g))) was).length <= 1 := by unfold stJ; split <;> simp
   omega
theorem bothV_len (op : Int -> Int -> Int) (f g : List Jp) : (bothV op f g).1.length <= f.length + g.length := by
 unfold bothV toldJ
 repeat' split
 all_goals first | exact both_len _ _ _ _ _ _ _ | exact Nat.zero_le _
theorem may_groups {l : List EdP} (h : mayE l = true) : runsP l = groups l := runs_groups l (isC_rows ((mayE_iff l).1 h).can)
abbrev ROk (w wr : World) (A : Option Addr) (c : Nat) (L : List (List Vl)) (own : Option Nat) : Prop :=
 (kH w).R tR wr 0 (fun k => some k = (Value.slice A L.length c).ownBlock) (.slice A L.length c) L /\ ∀ k, (Value.slice A L.length c).ownBlock = some k -> some k ≠ own
theorem ROk.below {w wr wq : World} {A : Option Addr} {c : Nat} {L : List (List Vl)} {own : Option Nat} (h : ROk w wr A c L own) (hb : Below wr.heap.size wr wq) : ROk w wq A c L own := ⟨Kd.R_below h.1 hb, h.2⟩
theorem ROk.grown {w wr wq : World} {A : Option Addr} {c : Nat} {L : List (List Vl)} {v v1 : Value} (h : ROk w wr A c L v.ownBlock) (hg : wr.grownBy wq v.ownBlock) (hat : v1.ownBlock = v.ownBlock \/ ∃ b, v1.ownBlock = some b /\ wr.heap.size <= b) : ROk w wq A c L v1.ownBlock :=
 ⟨Kd.R_grown h.1 hg (fun k hk => fun e => h.2 k hk.symm e), fun k hk e => by
  rcases hat with h' | ⟨b, h', hle⟩
  ·exact h.2 k hk (e.trans h')
  ·rw [h'] at e
   injection e with e
   have := Kd.R_lt h.1 k hk; omega⟩
theorem edgesJ_put (hh : List Vl -> Bool × Int) (x y : Gr) (f : List Jp) (both : List Vl) (hf : bothV (· * ·) x.2 y.2 = (f, 0)) (h0 : f ≠ []) (hj : joinV x.1 y.1 = (both, 0)) (hk : hh both = (true, 0)) : edgesJ hh x y = (putP [] both f, 0) := by
 unfold edgesJ; rw [hf, hj, if_neg zq30, if_neg h0, if_neg zq30]; simp only; rw [hk, if_neg zq30, if_pos rfl]; obtain ⟨ha, hb, hl, rfl⟩ := joinV_ok hj; unfold buildP; rw [rowMay_app ha hb hl, (bothV_val (op := (· * ·)) rfl hf).2.2.1]; rfl
theorem putP_nil (out : List EdP) (r : List Vl) (f : List Jp) : putP out r f = out ++ putP [] r f := by simp [putP]
def rpa.T15 : Bool × List (List Nat × List Nat) := (true, [([], []), ([], []), ([], []), ([1, 2], [1, 2]), ([3], [3]), ([0, 4], [0, 4]), ([], []), ([], []), ([], []), ([7, 8], [7, 8]), ([9], [9]), ([6, 10, 5], [6, 10]), ([5, 11, 11], [5, 11]), ([12], [12]), ([13], [13]), ([13], [13]), ([14, 12, 0, 1, 2, 3, 4, 5, 6, 7, 8, 9, 10, 11, 12, 13, 14], [14]), ([15, 16, 0, 1, 2, 3, 4, 5, 6, 7, 8, 9, 10, 11, 12, 13, 14, 15, 16], [15])])
def rpa.B15 : List Nat := [0, 0, 0, 6, 14, 31, 0, 0, 0, 384, 896, 2047, 4095, 8191, 16383, 16383, 32767, 131071]
theorem rpa.tab15 : rtab .any (opsOf Tryz.f30 15) = rpa.T15 := by kernel_rfl
theorem rpa.bits15 : waitsOk rpa.T15.2 rpa.B15 = true := by kernel_rfl
def rpb.T19 : Bool × List (List Nat × List Nat) := (true, [([], []), ([], []), ([0, 1], [0, 1]), ([2], [2]), ([], []), ([], []), ([4, 5], [4, 5]), ([6], [6]), ([3, 7], [3, 7]), ([8], [8]), ([9], [9]), ([9], [9]), ([10, 8, 0, 1, 2, 3, 4, 5, 6, 7, 8, 9, 10], [10]), ([11, 12, 0, 1, 2, 3, 4, 5, 6, 7, 8, 9, 10, 11, 12], [11])])
def rpb.B19 : List Nat := [0, 0, 3, 7, 0, 0, 48, 112, 255, 511, 1023, 1023, 2047, 8191]
theorem rpb.tab19 : rtab .any (opsOf Tryz.f30 19) = rpb.T19 := by kernel_rfl
theorem rpb.bits19 : waitsOk rpb.T19.2 rpb.B19 = true := by kernel_rfl
theorem refpairs_calls (hh : List Vl -> Bool × Int) (A0 A1 A2 : Option Addr) (c0 c1 c2 : Nat) (l r : List EdP) (x : List Op18) (w : World) (hr0 : Kd.C kE w A0 l.length l) (hc0 : l.length <= c0) (hr1 : Kd.C kE w A1 r.length r) (hc1 : r.length <= c1) (hr2 : Kd.C kOp w A2 x.length x) (hc2 : x.length <= c2)
  (hl : l.length <= 40) (hl2 : r.length <= 40) (hwl : ∀ e ∈ l, e.f0.length <= 4398046511104) (hwr : ∀ e ∈ r, e.f0.length <= 4398046511104)
  (hHO : ∀ (e e' : EdP), e ∈ l -> e' ∈ r -> ∀ (A : Option Addr) (c : Nat) (W : World), Below w.heap.size w W -> Kd.C kV W A (e.f0 ++ e'.f0).length (e.f0 ++ e'.f0) -> (e.f0 ++ e'.f0).length <= c ->
   Calls Tryz.prog 52 #[.slice A2 x.length c2, .slice A (e.f0 ++ e'.f0).length c] W fun z w' => z = .returned (.tuple #[.bool (hh (e.f0 ++ e'.f0)).1, .int .i64 (hh (e.f0 ++ e'.f0)).2]) /\ Below W.heap.size W w') :
  Calls Tryz.prog 30 #[.slice A0 l.length c0, .slice A1 r.length c1, .slice A2 x.length c2] w fun e w' => ∃ v, e = .returned (.tuple #[v, .int .i64 (pairsV hh (EvP.formV x) l r).2]) /\ Kd.R kE tE w' w.heap.size (fun _ => True) v (pairsV hh (EvP.formV x) l r).1 /\ Below w.heap.size w w' := by
 have ML := Hd (hmay_calls A0 c0 l w hr0 hc0 zq4 hwl); have MR := Hd (fun (W : World) (h : Below w.heap.size w W) => hmay_calls A1 c1 r W (Kd.C_below hr1 h) hc1 zq4 hwr); have FC := Hd (fun (W : World) (h : Below w.heap.size w W) => (EvP.form_R x).get.elim fun k hk => r17_Form.calls k A2 c2 x (EvP.formV x) W (Kd.C_below hr2 h) hc2 hk); have RL := Hd (fun (hm : mayE l = true) (W : World) (h : Below w.heap.size w W) => hrows_calls A0 c0 l w W hr0 h zq4 (fun e he => by
  exact (((mayE_iff l).1 hm).each e he).1))
 have RR := Hd (fun (hm : mayE r = true) (W : World) (h : Below w.heap.size w W) => hrows_calls A1 c1 r w W hr1 h zq4 (fun e he => by
  exact (((mayE_iff r).1 hm).each e he).1))
 have JL := Hd (fun (p : List Vl) (A : Option Addr) (c : Nat) (W : World) (h : Below w.heap.size w W) (h1 : Kd.C kV W A p.length p) (h2 : p.length <= c) => (jumps10 l p hwl zq4).get.elim fun k hk => r10_Jumps.calls k A0 c0 l A c p (jumpsOf l p) W (Kd.C_below hr0 h) hc0 h1 h2 hk); have JR := Hd (fun (p : List Vl) (A : Option Addr) (c : Nat) (W : World) (h : Below w.heap.size w W) (h1 : Kd.C kV W A p.length p) (h2 : p.length <= c) => (jumps10 r p hwr zq4).get.elim fun k hk => r10_Jumps.calls k A1 c1 r A c p (jumpsOf r p) W (Kd.C_below hr1 h) hc1 h1 h2 hk); have HHO := Hd hHO; have HL := Hd (And.intro hl hl2); obtain ⟨fe, hfe⟩ : ∃ z, EvP.formV x = z := ⟨_, rfl⟩
 rw [hfe] at FC ⊢; obtain ⟨ml, hml⟩ : ∃ z, mayE l = z := ⟨_, rfl⟩
 obtain ⟨mr, hmr⟩ : ∃ z, mayE r = z := ⟨_, rfl⟩
 rw [hml] at ML; rw [hmr] at MR; have HML := Hd hml; have HMR := Hd hmr; clear hr0 hc0 hr1 hc1 hr2 hc2 hl hl2 hwl hwr hHO hfe hml hmr; go_enter Tryz.func30, Tryz.ntmps30
 go_wp2_with (go_at_call 50; refine hold3 ?_)
 refine ⟨?_⟩; refine ML.out.mono ?_; rintro e w1 ⟨rfl, hb1⟩; have HB1 := Hd hb1; clear hb1 ML; cases ml with
 | false =>
  have HV := Hd (show pairsV hh fe l r = ([], 2) by unfold pairsV; rw [HML.out]; rfl); go_wp2; go_ret2; rw [HV.out]; exact ⟨_, rfl, Kd.R_nil _ _ _ _ _, HB1.out⟩
 | true =>
  go_wp2_with (go_at_call 50; refine hold3 ?_)
  refine ⟨?_⟩; refine (MR.out _ HB1.out).mono ?_; rintro e w2 ⟨rfl, hb2⟩; have HB2 := Hd (HB1.out.trans (hb2.mono HB1.out.size)); clear hb2 MR HB1; cases mr with
  | false =>
   have HV := Hd (show pairsV hh fe l r = ([], 2) by unfold pairsV; rw [HML.out, HMR.out]; rfl); go_wp2; go_ret2; rw [HV.out]; exact ⟨_, rfl, Kd.R_nil _ _ _ _ _, HB2.out⟩
  | true =>
   go_wp2_with (go_at_call 51; refine hold3 ?_)
   refine ⟨?_⟩; refine (FC.out _ HB2.out).mono ?_; rintro e w3 ⟨rfl, hb3⟩; have HB3 := Hd (HB2.out.trans (hb3.mono HB2.out.size)); clear hb3 FC HB2
   by_cases hf0 : fe = 0
   rotate_left
   ·have hne : (fe != 0) = true := bne_iff_ne.mpr hf0
    have HV := Hd (show pairsV hh fe l r = ([], fe) by unfold pairsV; rw [HML.out, HMR.out]; simp [hf0]); clear hf0; go_wp2; go_ret2; rw [HV.out]; exact ⟨_, rfl, Kd.R_nil _ _ _ _ _, HB3.out⟩
   ·subst hf0
    obtain ⟨L, hL⟩ : ∃ z, rowsOf l = z := ⟨_, rfl⟩
    obtain ⟨R, hR⟩ : ∃ z, rowsOf r = z := ⟨_, rfl⟩
    have R1 := Hd (RL.out HML.out); have R2 := Hd (RR.out HMR.out); rw [hL] at R1; rw [hR] at R2; have HLL := Hd (show L.length <= 40 /\ R.length <= 40 by
     have h1 := rowsx_len l; have h2 := rowsx_len r; rw [hL] at h1; rw [hR] at h2; have := HL.out; omega)
    obtain ⟨G, hG⟩ : ∃ z, groups l = z := ⟨_, rfl⟩
    obtain ⟨H, hH⟩ : ∃ z, groups r = z := ⟨_, rfl⟩
    have HGL := Hd (show G = L.map fun p => (p, jumpsOf l p) by rw [<- hG, <- hL]; rfl); have HHR := Hd (show H = R.map fun p => (p, jumpsOf r p) by rw [<- hH, <- hR]; rfl); have HV := Hd (show pairsV hh 0 l r = if (accR (edgesJ hh) [] (pairsL G H)).2 ≠ 0 then ([], (accR (edgesJ hh) [] (pairsL G H)).2) else normV (accR (edgesJ hh) [] (pairsL G H)).1 by
     unfold pairsV; rw [HML.out, HMR.out, may_groups HML.out, may_groups HMR.out, hG, hH]; rfl)
    have HML2 := Hd (show (∀ p ∈ L, ∃ e ∈ l, e.f0 = p) /\ ∀ p ∈ R, ∃ e ∈ r, e.f0 = p from ⟨fun p hp => (rowsOf_mem l p).1 (by rw [hL]; exact hp), fun p hp => (rowsOf_mem r p).1 (by rw [hR]; exact hp)⟩); clear RL RR hL hR hG hH
    go_wp2_with (first
     | (go_at_call 66; refine hold3 ?_)
     | ((with_reducible refine gate_dst (N := 33) rfl ?_); refine Kd.R_lit kE _ tE ?hg (N := 33) ?hd (xs := ([] : List EdP)) (inner := []) (ok := fun _ => True) (okp := fun _ => True) ?hr ?hp (fun _ hk => hk) trivial (Below.refl _ _) (Nat.le_refl _) zq30 ?_; (case hd => rfl); (case hg => rfl); (case hr => first | (go_simp; done) | (go_simp; rfl)); (case hp => exact (Reps.none _ _)); intro v9 w4 ho hb hg_ hnew_; obtain ⟨A9, c9, rfl⟩ := Kd.R_slice ho; have HO4 := Hd ho; have HB4 := Hd hb; clear ho hb hg_ hnew_))
    refine ⟨?_⟩; refine (R1.out w4 (HB3.out.trans (HB4.out.mono HB3.out.size))).mono ?_; rintro e w5 ⟨v10, rfl, hRL, hb5⟩; obtain ⟨AL, cL, rfl⟩ := Kd.R_slice hRL; have HB5 := Hd hb5; have HRL := Hd (show ROk w w5 AL cL L (Value.slice A9 0 c9).ownBlock from ⟨Kd.R_lower (Kd.R_tight rfl hRL) (Nat.zero_le _), fun k hk e => by
     have h1 := Kd.R_base hRL k hk; have h2 := Kd.R_lt HO4.out k e.symm; omega⟩)
    clear hRL hb5 R1
    go_wp2_with (go_at_call 66; refine hold3 ?_)
    refine ⟨?_⟩; refine (R2.out w5 (HB3.out.trans ((HB4.out.trans (HB5.out.mono HB4.out.size)).mono HB3.out.size))).mono ?_; rintro e w6 ⟨v11, rfl, hRR, hb6⟩; obtain ⟨AR, cR, rfl⟩ := Kd.R_slice hRR; have HRR := Hd (show ROk w w6 AR cR R (Value.slice A9 0 c9).ownBlock from ⟨Kd.R_lower (Kd.R_tight rfl hRR) (Nat.zero_le _), fun k hk e => by
     have h1 := Kd.R_base hRR k hk; have h2 := Kd.R_lt HO4.out k e.symm; have := HB5.out.size; omega⟩)
    have HRL6 := Hd (HRL.out.below hb6); have HB46 := Hd (HB5.out.trans (hb6.mono HB5.out.size)); have HB6 := Hd (HB3.out.trans ((HB4.out.trans (HB46.out.mono HB4.out.size)).mono HB3.out.size)); have HO6 := Hd (Kd.R_lower (Kd.R_below HO4.out HB46.out) HB3.out.size); clear hRR hb6 R2 HRL HB5 HB46 HB4 HO4 HB3; go_wp2
    go_loopw [9, 12] (fun v9 v12 wr => ∃ (i : Nat) (out : List EdP) (A9 : Option Addr) (c9 : Nat), i <= L.length /\ v12 = .int .i64 (i : Int) /\ v9 = .slice A9 out.length c9 /\ Aside0 (Kd.R kE tE wr w.heap.size (fun _ => True) (.slice A9 out.length c9) out) /\ Aside0 (Below w.heap.size w wr) /\ Aside0 (ROk w wr AL cL L (Value.slice A9 out.length c9).ownBlock) /\ Aside0 (ROk w wr AR cR R (Value.slice A9 out.length c9).ownBlock) /\
     Aside0 (accR (edgesJ hh) [] (pairsL G H) = accR (edgesJ hh) out ((pairsL G H).drop (i * R.length))) /\ Aside0 (out.length <= 80 * (i * R.length))) (fun v9 v12 wr => L.length - (intOf v12).toNat)
    case atStart => exact ⟨0, [], A9, c9, Nat.zero_le _, rfl, rfl, ⟨HO6.out⟩, ⟨HB6.out⟩, ⟨HRL6.out⟩, ⟨HRR.out⟩, ⟨by rw [Nat.zero_mul, List.drop_zero]⟩, ⟨Nat.zero_le _⟩⟩
    case round =>
     clear HO6 HB6 HRL6 HRR; obtain ⟨i, out0, A9', c9', hi, rfl, rfl, HO0, HB0, HLR0, HRR0, HEQ0, HLN0⟩ := hrel; have hll := HLL.out
     by_cases ci : i < L.length
     ·obtain ⟨p, hp⟩ : ∃ p, L[i] = p := ⟨_, rfl⟩
      have HPI := Hd (show L[i]? = some p by rw [List.getElem?_eq_getElem ci, hp]); have hwi := wrapN i zq4; obtain ⟨wo, hwo⟩ : ∃ z, z = wr := ⟨_, rfl⟩
      subst hwo; clear hp; go_wp2
      go_loopw [9, 13] (fun v9 v13 wr => ∃ (k : Nat) (out : List EdP) (A9 : Option Addr) (c9 : Nat), k <= R.length /\ v13 = .int .i64 (k : Int) /\ v9 = .slice A9 out.length c9 /\ Aside0 (Kd.R kE tE wr w.heap.size (fun _ => True) (.slice A9 out.length c9) out) /\ Aside0 (Below w.heap.size w wr) /\ Aside0 (ROk w wr AL cL L (Value.slice A9 out.length c9).ownBlock) /\ Aside0 (ROk w wr AR cR R (Value.slice A9 out.length c9).ownBlock) /\
       Aside0 (accR (edgesJ hh) [] (pairsL G H) = accR (edgesJ hh) out ((pairsL G H).drop (i * R.length + k))) /\ Aside0 (out.length <= 80 * (i * R.length + k))) (fun v9 v13 wr => R.length - (intOf v13).toNat)
      case atStart => exact ⟨0, out0, A9', c9', Nat.zero_le _, rfl, rfl, ⟨HO0.out⟩, ⟨HB0.out⟩, ⟨HLR0.out⟩, ⟨HRR0.out⟩, ⟨HEQ0.out⟩, ⟨HLN0.out⟩⟩
      case round =>
       clear HO0 HB0 HLR0 HRR0 HEQ0 HLN0; obtain ⟨k, out, A9, c9, hk, rfl, rfl, HO, HB, HLR1, HRR1, HEQ, HLN⟩ := hrel
       by_cases ck : k < R.length
       ·obtain ⟨q, hq⟩ : ∃ q, R[k] = q := ⟨_, rfl⟩
        have hkq : R[k]? = some q := by rw [List.getElem?_eq_getElem ck, hq]
        obtain ⟨ad, Ax, cx, eL, x0, xl, xC⟩ := at_H (Kd.R_reads' HLR1.out.1).2.2 i p HPI.out; obtain ⟨bd, Ay, cy, eR, y0, yl, yC⟩ := at_H (Kd.R_reads' HRR1.out.1).2.2 k q hkq; cases eL; cases eR; obtain ⟨e1, he1, hp1⟩ := HML2.out.1 p (List.mem_of_getElem? HPI.out); obtain ⟨e2, he2, hq2⟩ := HML2.out.2 q (List.mem_of_getElem? hkq); have HHK := Hd (HHO.out e1 e2 he1 he2); rw [hp1, hq2] at HHK; have HST := Hd (accR_drop (edgesJ hh) out (pairsL G H) (i * R.length + k) ((p, jumpsOf l p), (q, jumpsOf r q)) (by
         have h1 : G[i]? = some (p, jumpsOf l p) := by rw [HGL.out, List.getElem?_map, HPI.out]; rfl
         have h2 : H[k]? = some (q, jumpsOf r q) := by rw [HHR.out, List.getElem?_map, hkq]; rfl
         have h3 := pairsL_get H G i k _ _ h1 h2; rw [show H.length = R.length by rw [HHR.out, List.length_map]] at h3; exact h3))
        rw [<- HEQ.out] at HST; have hjl := jumpsOf_len l p; have hjr := jumpsOf_len r q; have HTL := Hd (show (bothV (· * ·) (jumpsOf l p) (jumpsOf r q)).1.length <= 80 by
         have h1 := bothV_len (· * ·) (jumpsOf l p) (jumpsOf r q); have := HL.out; omega)
        obtain ⟨jl, hjl2⟩ : ∃ z, jumpsOf l p = z := ⟨_, rfl⟩
        obtain ⟨jr, hjr2⟩ : ∃ z, jumpsOf r q = z := ⟨_, rfl⟩
        have C1 := Hd (fun (W : World) (h : Below wr.heap.size wr W) => JL.out p Ax cx W (HB.out.trans (h.mono HB.out.size)) (Kd.C_below xC (HB.out.trans (h.mono HB.out.size))) xl); have C2 := Hd (fun (W : World) (h : Below wr.heap.size wr W) => JR.out q Ay cy W (HB.out.trans (h.mono HB.out.size)) (Kd.C_below yC (HB.out.trans (h.mono HB.out.size))) yl); rw [hjl2] at C1 HST HTL; rw [hjr2] at C2 HST HTL; have X0 := Hd (fun (W : World) (h : Below wr.heap.size wr W) => pw_cell_below h x0); have Y0 := Hd (fun (W : World) (h : Below wr.heap.size wr W) => pw_cell_below h y0); have XC := Hd (And.intro xl xC); have YC := Hd (And.intro yl yC); obtain ⟨⟨f, ef⟩, hbv⟩ : ∃ z, bothV (· * ·) jl jr = z := ⟨_, rfl⟩
        have TC := Hd (fun (Aj Ak : Option Addr) (cj ck : Nat) (W : World) (h1 : Kd.C kJp W Aj jl.length jl) (h2 : jl.length <= cj) (h3 : Kd.C kJp W Ak jr.length jr) (h4 : jr.length <= ck) => show Calls Tryz.prog 67 #[.slice Aj jl.length cj, .slice Ak jr.length ck, .int .i64 1] W fun e w' => ∃ v, e = .returned (.tuple #[v, .int .i64 ef]) /\ Kd.R kJp tJ w' W.heap.size (fun _ => True) v f /\ Below W.heap.size W w' by
         have h := htwo_calls 1 zq30 Aj Ak cj ck jl jr W h1 h2 h3 h4; rw [show opW 1 = (· * ·) from rfl, hbv] at h; exact h)
        have HBV := Hd hbv; rw [hbv] at HTL; have HKQ := Hd hkq; have pI : (0 <= (i : Int)) = True := eq_true zq4; have qI : ((i : Int) < (L.length : Int)) = True := eq_true zq4; have pK : (0 <= (k : Int)) = True := eq_true zq4; have qK : ((k : Int) < (R.length : Int)) = True := eq_true zq4; have hwk := wrapN k zq4; clear x0 xl xC y0 yl yC hbv hkq hq hp1 hq2 he1 he2 hjl hjr hjl2 hjr2; go_wp2; have hbw := below_drew1 (Below.refl wr.heap.size wr); refine start_ (n := 18) (S := fun w' => Below wr.heap.size wr w' /\ w'.cell? (ad.add i) = some (.slice Ax p.length cx) /\ w'.cell? (bd.add k) = some (.slice Ay q.length cy)) (ds := []) #[false, false, false, false, false, false, false, false, false, false, false, false, false, false, false, false, false, false] zq17 rfl rfl ⟨hbw, X0.out _ hbw, Y0.out _ hbw⟩ (fun hHeld => ?_); refine with_tabW rpa.tab15 rpa.bits15 (fun HT_ HW_ => ?_); refine pZ 0 51 ?_; refine pZ 1 52 ?_; refine pZ 2 53 ?_; refine pZ 3 54 ?_; refine pZ 6 57 ?_; refine pZ 7 58 ?_; refine pZ 8 59 ?_; refine pZ 9 60 ?_; refine tZ3 4 55 ?_; refine tZ3 10 61 ?_; refine oZ 5 56 (fun K hK => ?_); refine goes_ Tryz.func26 zq17 rfl #[.slice A0 l.length c0, .slice Ax p.length cx] (by rfl) rfl rfl zq67 ?_
        with_reducible refine (C1.out _ hHeld.1).mono ?_
        rintro e w5 ⟨vj, rfl, hRj, hb5⟩; refine ⟨_, rfl, ?_⟩; obtain ⟨Aj, cj, rfl⟩ := Kd.R_slice hRj; have HJ1 := Hd (Kd.R_reads' hRj); have hb6 := hHeld.1.trans (hb5.mono hHeld.1.size); clear hRj; refine hK.out _ _ ⟨hb6, X0.out _ hb6, Y0.out _ hb6⟩ (fun hHeld => ?_); clear hK K; refine nZ 56 ?_; refine oZ 11 62 (fun K hK => ?_); refine goes_ Tryz.func26 zq17 rfl #[.slice A1 r.length c1, .slice Ay q.length cy] (by rfl) rfl rfl zq67 ?_
        with_reducible refine (C2.out _ hHeld.1).mono ?_
        rintro e w7 ⟨vk, rfl, hRk, hb7⟩; refine ⟨_, rfl, ?_⟩; obtain ⟨Ak, ck2, rfl⟩ := Kd.R_slice hRk; have HJ2 := Hd (Kd.R_reads' hRk); have HJ1b := Hd (Kd.C_below HJ1.out.2.2 hb7); have hb8 := hHeld.1.trans (hb7.mono hHeld.1.size); clear hRk; refine hK.out _ _ ⟨hb8, X0.out _ hb8, Y0.out _ hb8⟩ (fun hHeld => ?_); clear hK K; refine nZ 62 ?_; refine oZ 12 63 (fun K hK => ?_); refine goes_ Tryz.func67 zq17 rfl #[.slice Aj jl.length cj, .slice Ak jr.length ck2, .int .i64 1] (by rfl) rfl rfl zq67 ?_
        with_reducible refine (TC.out _ _ _ _ _ HJ1b.out HJ1.out.2.1 HJ2.out.2.2 HJ2.out.2.1).mono ?_
        rintro e w8 ⟨vf, rfl, hRf, hb9⟩; refine ⟨_, rfl, ?_⟩; obtain ⟨Af, cf, rfl⟩ := Kd.R_slice hRf; have HF := Hd hRf; have hb10 := hHeld.1.trans (hb9.mono hHeld.1.size); have HBT := Hd hb10; clear hRf; refine hK.out _ _ ⟨hb10, X0.out _ hb10, Y0.out _ hb10⟩ (fun hHeld => ?_); clear hK K; refine nZ 63 ?_; refine pZ 13 50 ?_; refine pZ 14 64 ?_; refine pZ 15 65 ?_; refine pZ 16 14 ?_; refine pZ 17 15 ?_; refine done_ (done_of HT_.out zq17) ?_; have HBW := Hd (HB.out.trans (HBT.out.mono HB.out.size)); have HO8 := Hd (Kd.R_below HO.out HBT.out); have HLR8 := Hd (HLR1.out.below HBT.out); have HRR8 := Hd (HRR1.out.below HBT.out); clear HO HLR1 HRR1 C1 C2 TC hb6 hb8 hb10 hbw HJ1 HJ2 HJ1b hb5 hb7 hb9
        by_cases hef : ef = 0
        rotate_left
        ·have hne : (ef != 0) = true := bne_iff_ne.mpr hef
         have HE := Hd (show edgesJ hh (p, jl) (q, jr) = ([], ef) by unfold edgesJ; simp only; rw [HBV.out, if_pos hef]); have HV2 := Hd (show pairsV hh 0 l r = ([], ef) by rw [HV.out, HST.out, HE.out, if_pos hef, if_pos hef]); clear hef HST; go_wp2; go_ret2; rw [HV2.out]; exact ⟨_, rfl, Kd.R_nil _ _ _ _ _, HBW.out⟩
        ·subst hef
         by_cases hf0 : f = []
         ·subst hf0
          have HE := Hd (show edgesJ hh (p, jl) (q, jr) = ([], 0) by unfold edgesJ; simp only; rw [HBV.out, if_neg zq30, if_pos rfl]); have HRO := Hd HO8.out; have HBN := Hd HBW.out; have HLR := Hd HLR8.out; have HRR := Hd HRR8.out; have HEN := Hd (show accR (edgesJ hh) [] (pairsL G H) = accR (edgesJ hh) out ((pairsL G H).drop (i * R.length + (k + 1))) by rw [HST.out, HE.out, if_neg zq30, List.append_nil, Nat.add_assoc]); have HLE := Hd (show out.length <= 80 * (i * R.length + (k + 1)) by have := HLN.out; omega); clear HST; go_wp2; go_roundw
          case rel => exact ⟨k + 1, out, _, _, by omega, (by first | rw [hwk] | go_num), rfl, ⟨HRO.out⟩, ⟨HBN.out⟩, ⟨HLR.out⟩, ⟨HRR.out⟩, ⟨by rw [HEN.out]⟩, ⟨HLE.out⟩⟩
          case measure => first | (rw [hwk]; simp [intOf]; omega) | (simp [intOf]; omega)
         ·have hfl : ((f.length : Int) == 0) = false := BNM (by intro e; exact hf0 (List.eq_nil_of_length_eq_zero zq4))
          have HF0 := Hd hf0; obtain ⟨⟨both, ej⟩, hjv⟩ : ∃ z, joinV p q = z := ⟨_, rfl⟩
          have JC := Hd (fun (W : World) (h : Below wr.heap.size wr W) => (join06 p q).get.elim fun kj hkj => show Calls Tryz.prog 32 #[.slice Ax p.length cx, .slice Ay q.length cy] W fun e w' => ∃ v, e = .returned (.tuple #[v, .int .i64 ej]) /\ Kd.R kV tV w' W.heap.size (fun _ => True) v both /\ Below W.heap.size W w' by
           rw [hjv] at hkj; exact r06_Join.calls kj Ax cx p Ay cy q both ej W (Kd.C_below XC.out.2 (HB.out.trans (h.mono HB.out.size))) XC.out.1 (Kd.C_below YC.out.2 (HB.out.trans (h.mono HB.out.size))) YC.out.1 hkj)
          have HJV := Hd hjv; have hBT := HBT.out; clear hf0 hjv; go_wp2; have hbw := below_drew1 hBT; refine start_ (n := 14) (S := fun w' => Below wr.heap.size wr w' /\ w'.cell? (ad.add i) = some (.slice Ax p.length cx) /\ w'.cell? (bd.add k) = some (.slice Ay q.length cy) /\ Below w8.heap.size w8 w') (ds := []) #[false, false, false, false, false, false, false, false, false, false, false, false, false, false] zq17 rfl rfl ⟨hbw, X0.out _ hbw, Y0.out _ hbw, below_drew1 (Below.refl w8.heap.size w8)⟩ (fun hHeld => ?_); refine with_tabW rpb.tab19 rpb.bits19 (fun HT_ HW_ => ?_); refine pZ 0 73 ?_; refine pZ 1 74 ?_; refine pZ 2 75 ?_; refine pZ 4 77 ?_; refine pZ 5 78 ?_; refine pZ 6 79 ?_; refine tZ4 3 76 ?_; refine tZ4 7 80 ?_; refine oZ 8 81 (fun K hK => ?_); refine goes_ Tryz.func32 zq17 rfl #[.slice Ax p.length cx, .slice Ay q.length cy] (by rfl) rfl rfl zq67 ?_
          with_reducible refine (JC.out _ hHeld.1).mono ?_
          rintro e w9 ⟨vb, rfl, hRb, hb9⟩; refine ⟨_, rfl, ?_⟩; obtain ⟨Ab, cb, rfl⟩ := Kd.R_slice hRb; have HBO := Hd hRb; have hb10 := hHeld.1.trans (hb9.mono hHeld.1.size); have BTJ := Hd (hHeld.2.2.2.trans (hb9.mono hHeld.2.2.2.size)); have HWJ := Hd hHeld.2.2.2.size; clear hRb; refine hK.out _ _ ⟨hb10, X0.out _ hb10, Y0.out _ hb10, BTJ.out⟩ (fun hHeld => ?_); clear hK K; refine nZ 81 ?_; refine pZ 9 72 ?_; refine pZ 10 82 ?_; refine pZ 11 83 ?_; refine pZ 12 16 ?_; refine pZ 13 17 ?_; refine done_ (done_of HT_.out zq17) ?_; have HB10 := Hd hb10; have HBW2 := Hd (HB.out.trans (hb10.mono HB.out.size)); have HB810 := Hd (show Below w8.heap.size w8 w9 from BTJ.out); clear hb10 hb9 hbw hBT JC
          by_cases hej : ej = 0
          rotate_left
          ·have hne : (ej != 0) = true := bne_iff_ne.mpr hej
           have HE := Hd (show edgesJ hh (p, jl) (q, jr) = ([], ej) by unfold edgesJ; simp only; rw [HBV.out, if_neg zq30, if_neg HF0.out, HJV.out, if_pos hej]); have HV2 := Hd (show pairsV hh 0 l r = ([], ej) by rw [HV.out, HST.out, HE.out, if_pos hej, if_pos hej]); clear hej HST; go_wp2; go_ret2; rw [HV2.out]; exact ⟨_, rfl, Kd.R_nil _ _ _ _ _, HBW2.out⟩
          ·subst hej
           obtain ⟨_, _, hpq8, hbe⟩ := joinV_ok HJV.out; have hHK := HHK.out Ab cb w9 HBW2.out; rw [<- hbe] at hHK; have HC := Hd (hHK (Kd.R_reads' HBO.out).2.2 (Kd.R_reads' HBO.out).2.1); have HB8 := Hd (show both.length <= 8 by rw [hbe, List.length_append]; omega); obtain ⟨⟨hv, eh⟩, hhv⟩ : ∃ z, hh both = z := ⟨_, rfl⟩
           rw [hhv] at HC; have HHV := Hd hhv; clear hHK hpq8 hbe hhv
           go_wp2_with (go_at_call 52; refine hold3 ?_)
           refine ⟨?_⟩; refine HC.out.mono ?_; rintro e w10 ⟨rfl, hb11⟩; have HB11 := Hd hb11; have HBW3 := Hd (HBW2.out.trans (hb11.mono HBW2.out.size)); have HRO := Hd (Kd.R_below (Kd.R_below HO8.out HB810.out) hb11); have HBN := Hd HBW3.out; have HLR := Hd ((HLR8.out.below HB810.out).below hb11); have HRR := Hd ((HRR8.out.below HB810.out).below hb11); clear hb11 HC
           by_cases heh : eh = 0
           rotate_left
           ·have hne : (eh != 0) = true := bne_iff_ne.mpr heh
            have HE := Hd (show edgesJ hh (p, jl) (q, jr) = ([], eh) by unfold edgesJ; simp only; rw [HBV.out, if_neg zq30, if_neg HF0.out, HJV.out, if_neg zq30, HHV.out, if_pos heh]); have HV2 := Hd (show pairsV hh 0 l r = ([], eh) by rw [HV.out, HST.out, HE.out, if_pos heh, if_pos heh]); clear heh HST; go_wp2; go_ret2; rw [HV2.out]; exact ⟨_, rfl, Kd.R_nil _ _ _ _ _, HBW3.out⟩
           ·subst heh
            cases hv with
            | false =>
             have HE := Hd (show edgesJ hh (p, jl) (q, jr) = ([], 0) by unfold edgesJ; simp only; rw [HBV.out, if_neg zq30, if_neg HF0.out, HJV.out, if_neg zq30, HHV.out, if_neg zq30]; rfl); have HEN := Hd (show accR (edgesJ hh) [] (pairsL G H) = accR (edgesJ hh) out ((pairsL G H).drop (i * R.length + (k + 1))) by rw [HST.out, HE.out, if_neg zq30, List.append_nil, Nat.add_assoc]); have HLE := Hd (show out.length <= 80 * (i * R.length + (k + 1)) by have := HLN.out; omega); clear HST; go_wp2; go_roundw
             case rel => exact ⟨k + 1, out, _, _, by omega, (by first | rw [hwk] | go_num), rfl, ⟨HRO.out⟩, ⟨HBN.out⟩, ⟨HLR.out⟩, ⟨HRR.out⟩, ⟨by rw [HEN.out]⟩, ⟨HLE.out⟩⟩
             case measure => first | (rw [hwk]; simp [intOf]; omega) | (simp [intOf]; omega)
            | true =>
             have HE := Hd (edgesJ_put hh (p, jl) (q, jr) f both HBV.out HF0.out HJV.out HHV.out); have HBF := Hd (Kd.R_F (Kd.R_tight rfl HBO.out)); have HFW := Hd (Kd.R_lower (Kd.R_below (Kd.R_below HF.out HB810.out) HB11.out) (Nat.zero_le _)); have hlt8 := Kd.R_lt HO8.out; have PC := Hd (refput_calls w.heap.size (fun _ => True) (.slice A9 out.length c9) out Ab cb both Af cf f w10 HRO.out HBN.out.size (fun _ _ => trivial) (fun k => some k = (Value.slice Ab both.length cb).ownBlock)
              (fun w4 h => HBF.out w4 (fun k hk hlt => (h k hk).trans (HB11.out.block k hlt))) (fun k hk => ⟨Nat.lt_of_lt_of_le (Kd.R_lt HBO.out k hk.symm) HB11.out.size, fun e' => by
               have h1 := Kd.R_base HBO.out k hk.symm; have h2 := hlt8 k e'.symm; have := HWJ.out; omega⟩) HFW.out (by have := HB8.out; omega) (by have h1 := HLN.out; have h2 := HTL.out; have h3 := HLL.out; have : i * R.length <= 40 * 40 := Nat.mul_le_mul zq4 zq4; (try simp only at h2); omega))
             clear hlt8
             go_wp2_with (go_at_call 68; refine hold3 ?_)
             refine ⟨?_⟩; refine PC.out.mono ?_; rintro e w11 ⟨vp, rfl, hRp, hgr, hat⟩; obtain ⟨Ap, cp, rfl⟩ := Kd.R_slice hRp; have HRP := Hd hRp; have HLP := Hd (HLR.out.grown hgr hat); have HRRP := Hd (HRR.out.grown hgr hat); have HBP := Hd (pw_below_grown HBN.out _ HBN.out.size hgr (fun k hk => Kd.R_base HRO.out k hk)); have HEN := Hd (show accR (edgesJ hh) [] (pairsL G H) = accR (edgesJ hh) (putP out both f) ((pairsL G H).drop (i * R.length + (k + 1))) by rw [HST.out, HE.out, if_neg zq30, putP_nil out, Nat.add_assoc]); have HLE := Hd (show (putP out both f).length <= 80 * (i * R.length + (k + 1)) by have h1 := HLN.out; have h2 := HTL.out; (try simp only at h2); rw [putP_len]; omega); clear HST hRp hgr hat PC; go_wp2; go_roundw
             case rel => exact ⟨k + 1, putP out both f, _, _, by omega, (by first | rw [hwk] | go_num), rfl, ⟨HRP.out⟩, ⟨HBP.out⟩, ⟨HLP.out⟩, ⟨HRRP.out⟩, ⟨by rw [HEN.out]⟩, ⟨HLE.out⟩⟩
             case measure => first | (rw [hwk]; simp [intOf]; omega) | (simp [intOf]; omega)
       ·obtain rfl : k = R.length := by omega
        have HEI := Hd (show accR (edgesJ hh) [] (pairsL G H) = accR (edgesJ hh) out ((pairsL G H).drop ((i + 1) * R.length)) by rw [HEQ.out, Nat.succ_mul]); have HLI := Hd (show out.length <= 80 * ((i + 1) * R.length) from (Nat.succ_mul i R.length).symm ▸ HLN.out); go_wp2; go_roundw
        case rel => exact ⟨i + 1, out, A9, c9, by omega, (by first | rw [hwi] | go_num), rfl, ⟨HO.out⟩, ⟨HB.out⟩, ⟨HLR1.out⟩, ⟨HRR1.out⟩, ⟨HEI.out⟩, ⟨HLI.out⟩⟩
        case measure => first | (rw [hwi]; simp [intOf]; omega) | (simp [intOf]; omega)
     ·obtain rfl : i = L.length := by omega
      have HPN := Hd (show accR (edgesJ hh) [] (pairsL G H) = (out0, 0) by
       have hlen : (pairsL G H).length = L.length * R.length := by rw [pairsL_len, HGL.out, HHR.out, List.length_map, List.length_map]
       rw [HEQ0.out, List.drop_eq_nil_of_le (by rw [hlen]; exact Nat.le_refl _), accR])
      have HV2 := Hd (show pairsV hh 0 l r = normV out0 by rw [HV.out, HPN.out, if_neg zq30]); have NC := Hd (refnorm_calls A9' c9' out0 wr (Kd.R_reads' HO0.out).2.2 (Kd.R_reads' HO0.out).2.1 (by have h1 := HLN0.out; have : L.length * R.length <= 40 * 40 := Nat.mul_le_mul hll.1 hll.2; omega))
      go_wp2_with (go_at_call 58; refine hold3 ?_)
      refine ⟨?_⟩; refine NC.out.mono ?_; rintro e w12 ⟨vn, rfl, hRn, hbn⟩; have HRN := Hd (Kd.R_lower hRn HB0.out.size); have HBN := Hd (HB0.out.trans (hbn.mono HB0.out.size)); clear hRn hbn NC; go_wp2; go_ret2; rw [HV2.out]; exact ⟨vn, rfl, HRN.out, HBN.out⟩
end Go.Proofs.YtmkgecapkeojaaaGreat.Eg
end
section
namespace Go.Proofs.YtmkgecapkeojaaaGreat.Eg
open Go.Proofs.YtmkgecapkeojaaaGreat Go.Proofs.YtmkgecapkeojaaaGreat.PDa Go.Proofs.YtmkgecapkeojaaaGreat.EvP
open Go.RowKit Go.Proofs.YtmkgecapkeojaaaGreatW.PrintWords Go.Proofs.YtmkgecapkeojaaaGreatW.PrintLast Go.Proofs.YtmkgecapkeojaaaGreatW.PrintMore
open Go.Proofs.YtmkgecapkeojaaaGreat.Stp Go.Proofs.YtmkgecapkeojaaaGreat.Rw
theorem r64b {z : Int} (h : (Lit.int .i64 z).wf = true) : PDd.r64 z = true := by
 have := R64.of_wf h; unfold PDd.r64; rw [Bool.and_eq_true]; exact ⟨DET this.1, DET this.2⟩
abbrev wfV (v : Rw.Vl) : Prop := (Lit.int .i64 v.f0).wf = true /\ (Lit.int .i64 v.f1).wf = true /\ v.f2.size <= 140737488351232
abbrev wfE (e : EdP) : Prop := ((∀ v ∈ e.f0, wfV v) /\ e.f0.length * Tryz.prog.bytesOf 65 <= 140737488351232) /\ (Lit.int .i64 e.f1).wf = true /\ (Lit.int .i64 e.f2).wf = true
abbrev wfEs (l : List EdP) : Prop := (∀ e ∈ l, wfE e) /\ l.length * Tryz.prog.bytesOf 41 <= 140737488351232
abbrev wfO (x : Op8) : Prop := (Lit.int .i64 x.f0).wf = true /\ (Lit.int .i64 x.f1).wf = true /\ x.f2.size <= 140737488351232
abbrev wfX (l : List Op8) : Prop := (∀ x ∈ l, wfO x) /\ l.length * Tryz.prog.bytesOf 68 <= 140737488351232
theorem bytesV : Tryz.prog.bytesOf 65 = 32 := by kernel_rfl
theorem okEs_wf {l : List EdP} (h : wfEs l) : PDd.okEs l = true := by
 unfold PDd.okEs; refine List.all_eq_true.2 fun e he => ?_
 obtain ⟨⟨h1, h2⟩, _⟩ := h.1 e he; rw [bytesV] at h2; rw [Bool.and_eq_true]; exact ⟨DET zq4, List.all_eq_true.2 fun v hv => r64b (h1 v hv).2.1⟩
theorem okXs_wf {l : List Op8} (h : wfX l) : PDd.okXs l = true := List.all_eq_true.2 fun x hx => r64b (h.1 x hx).2.1
end Go.Proofs.YtmkgecapkeojaaaGreat.Eg
end
section
namespace Go.Proofs.YtmkgecapkeojaaaGreat.Eg
open Go.Proofs.YtmkgecapkeojaaaGreat Go.Proofs.YtmkgecapkeojaaaGreat.PDa
open Go.RowKit Go.Proofs.YtmkgecapkeojaaaGreatW.PrintWords Go.Proofs.YtmkgecapkeojaaaGreatW.PrintLast Go.Proofs.YtmkgecapkeojaaaGreatW.PrintMore
open Go.Proofs.YtmkgecapkeojaaaGreat.Stp Go.Proofs.YtmkgecapkeojaaaGreat.Rw
theorem pairsV_sub (hh : List Vl -> Bool × Int) (ef : Int) (l r : List EdP) : (∀ e ∈ (pairsV hh ef l r).1, e.f0.length <= 8) /\ (pairsV hh ef l r).1.length <= 4096 := by
 unfold pairsV
 repeat' split
 all_goals first | exact normV_sub _ | exact ⟨by simp, by simp⟩
theorem joinPairs_walk (A0 : Option Addr) (c0 : Nat) (l : List EdP) (A1 : Option Addr) (c1 : Nat) (m : List EdP) (A2 : Option Addr) (c2 : Nat) (x : List Op8) (w : World) (hr0 : Kd.C k41 w A0 l.length l) (hc0 : l.length <= c0) (h0 : wfEs l)
  (hr1 : Kd.C k41 w A1 m.length m) (hc1 : m.length <= c1) (h1 : wfEs m) (hr2 : Kd.C k68 w A2 x.length x) (hc2 : x.length <= c2) (h2 : wfX x) :
  Calls Tryz.prog 6 #[.slice A0 l.length c0, .slice A1 m.length c1, .slice A2 x.length c2] w fun e w' => e = .returned (.bool true) /\ Below w.heap.size w w' := by
 have hl := okEs_wf h0; have hm := okEs_wf h1; have hx := okXs_wf h2; have hwl := PDd.okEs_row hl; have hwm := PDd.okEs_row hm; have hX : ∀ (e e' : EdP), e ∈ l -> e' ∈ m -> EvP.XOk x (e.f0 ++ e'.f0) := fun e e' he he' => ⟨(PDd.okX hl hx e he).x, fun v hv => (List.mem_append.1 hv).elim ((PDd.okX hl hx e he).row v) ((PDd.okX hm hx e' he').row v)⟩
 have FL := Hd (rescindlaw31_few.calls A0 c0 l (decide ((l.length : Int) <= 40)) w hr0 hc0 rfl); have FM := Hd (fun (W : World) (h : Below w.heap.size w W) => rescindlaw31_few.calls A1 c1 m (decide ((m.length : Int) <= 40)) W (Kd.C_below hr1 h) hc1 rfl); have LV := Hd (fun w1 => liveJ_calls w1); have PA := Hd (fun (W : World) (h : Below w.heap.size w W) => pairs_any A0 A1 A2 c0 c1 c2 l m x W (Kd.C_below hr0 h) (Kd.C_below hr1 h) (Kd.C_below hr2 h) hc2 hl hm hx); have PB := Hd (fun (hf : l.length <= 40) (hf2 : m.length <= 40) (W : World) (h : Below w.heap.size w W) => refpairs_calls (EvP.holdsV x) A0 A1 A2 c0 c1 c2 l m x W (Kd.C_below hr0 h) hc0 (Kd.C_below hr1 h) hc1 (Kd.C_below hr2 h) hc2 hf hf2 hwl hwm
  (fun e e' he he' A c W1 hb hC hc => hholds_calls x (e.f0 ++ e'.f0) (hX e e' he he') A2 A c2 c W1 (Kd.C_below hr2 (h.trans (hb.mono h.size))) hc2 hC hc))
 have hp := pairsV_sub (EvP.holdsV x) (EvP.formV x) l m; obtain ⟨⟨G, g⟩, hG⟩ : ∃ z, pairsV (EvP.holdsV x) (EvP.formV x) l m = z := ⟨_, rfl⟩
 rw [hG] at PA PB hp; have SG := Hd (fun (A A' : Option Addr) (c c' : Nat) (W : World) (h1 : Kd.C kE W A G.length G) (h2 : G.length <= c) (h3 : Kd.C kE W A' G.length G) (h4 : G.length <= c') => hsame_calls A A' c c' G W h1 h2 h3 h4 (by have := hp.2; simp only at this; omega) (fun e he => by have := hp.1 e he; omega)); clear hr0 hc0 hr1 hc1 hr2 hc2 hl hm hx hwl hwm hp hG hX h0 h1 h2
 by_cases hfl : l.length <= 40
 rotate_left
 ·have b0 : decide ((l.length : Int) <= 40) = false := DEF zq4
  rw [b0] at FL; clear hfl b0; go_enter Tryz.func6, Tryz.ntmps6
  go_wp2_with (go_at_call 27; refine hold_intro ?_)
  refine ⟨?_⟩; refine FL.out.mono ?_; rintro e w1 ⟨rfl, hd1⟩; have HB1 := Hd (show Below w.heap.size w w1 from hd1.below); clear hd1
  go_wp2_with (go_at_call 28; refine hold_intro ?_)
  refine ⟨?_⟩; refine (LV.out w1).mono ?_; rintro e w2 ⟨rfl, hb2⟩; go_wp2; go_ret; exact ⟨rfl, HB1.out.trans (hb2.mono HB1.out.size)⟩
 ·have b0 : decide ((l.length : Int) <= 40) = true := DET zq4
  rw [b0] at FL; have HFL := Hd hfl; clear b0; go_enter Tryz.func6, Tryz.ntmps6
  go_wp2_with (go_at_call 27; refine hold_intro ?_)
  refine ⟨?_⟩; refine FL.out.mono ?_; rintro e w1 ⟨rfl, hd1⟩; have HB1 := Hd (show Below w.heap.size w w1 from hd1.below); clear hd1 FL
  go_wp2_with (go_at_call 27; refine hold_intro ?_)
  refine ⟨?_⟩; refine (FM.out w1 HB1.out).mono ?_; rintro e w2 ⟨rfl, hd2⟩; have HB2 := Hd (HB1.out.trans (hd2.below.mono HB1.out.size)); clear hd2 FM
  by_cases hfm : m.length <= 40
  rotate_left
  ·have b1 : decide ((m.length : Int) <= 40) = false := DEF zq4
   rw [b1]; clear hfm b1
   go_wp2_with (go_at_call 28; refine hold_intro ?_)
   refine ⟨?_⟩; refine (LV.out w2).mono ?_; rintro e w3 ⟨rfl, hb3⟩; go_wp2; go_ret; exact ⟨rfl, HB2.out.trans (hb3.mono HB2.out.size)⟩
  ·have b1 : decide ((m.length : Int) <= 40) = true := DET zq4
   rw [b1]; have HFM := Hd hfm; clear hfm b1 hfl
   go_wp2_with (go_at_call 29; refine hold_intro ?_)
   refine ⟨?_⟩; refine (PA.out w2 HB2.out).mono ?_; rintro e w3 ⟨Aa, ca, rfl, hCa, hla, hb3⟩; have HB3 := Hd (HB2.out.trans (hb3.mono HB2.out.size)); have HRA := Hd (And.intro hCa hla); clear hCa hla hb3 PA
   go_wp2_with (go_at_call 30; refine hold_intro ?_)
   refine ⟨?_⟩; refine (PB.out HFL.out HFM.out w3 HB3.out).mono ?_; rintro e w4 ⟨vb, rfl, hRb, hb4⟩; obtain ⟨Ab, cb, rfl⟩ := Kd.R_slice hRb; have HB4 := Hd (HB3.out.trans (hb4.mono HB3.out.size)); have HRB := Hd (Kd.R_reads' hRb); have HRA4 := Hd (Kd.C_below HRA.out.1 hb4); clear hRb hb4 PB
   go_wp2_with (go_at_call 28; refine hold_intro ?_)
   refine ⟨?_⟩; refine (LV.out w4).mono ?_; rintro e w5 ⟨rfl, hb5⟩; have HB5 := Hd (HB4.out.trans (hb5.mono HB4.out.size)); have S1 := Hd (SG.out Aa Ab ca cb w5 (Kd.C_below HRA4.out hb5) HRA.out.2 (Kd.C_below HRB.out.2.2 hb5) HRB.out.2.1); clear hb5 LV SG
   go_wp2_with (go_at_call 20; refine hold_intro ?_)
   refine ⟨?_⟩; refine S1.out.mono ?_; rintro e w6 ⟨rfl, hb6⟩; have HB6 := Hd (HB5.out.trans (hb6.mono HB5.out.size)); clear hb6; go_wp2; go_ret; exact ⟨rfl, HB6.out⟩
end Go.Proofs.YtmkgecapkeojaaaGreat.Eg
end
