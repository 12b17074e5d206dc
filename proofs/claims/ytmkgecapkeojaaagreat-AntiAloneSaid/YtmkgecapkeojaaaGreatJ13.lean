/- Texts of this claim, put together by a program: HNorm, RefNorm, HMay, HOne, HParts, HOf, HEval, HMade, RefProj, LawP, Any, JoinL, LiveP, LiveJ. -/
import Derived.Test.YtmkgecapkeojaaaGreatJ12
import Derived.Deep.DeepCutAuto
set_option linter.unusedVariables false
set_option linter.unusedSimpArgs false
set_option maxHeartbeats 8000000
set_option maxRecDepth 100000
section
namespace Go.Proofs.YtmkgecapkeojaaaGreat.Eg
open PDa
open RowKit YtmkgecapkeojaaaGreatW.PrintWords YtmkgecapkeojaaaGreatW.PrintLast YtmkgecapkeojaaaGreatW.PrintMore
open Stp Rw
theorem foldW_snoc (f:List Jp) (acc:List Int) (i:Nat) (h:i<f.length):foldW (f.take (i+1)) acc=withI f[i].f0 (foldW (f.take i) acc):=by
 unfold foldW;rw[List.take_add_one,List.getElem?_eq_getElem h,Option.toList_some,List.foldl_append];rfl
theorem hplaces_calls (A0 A1:Option Addr) (c0 c1:Nat) (f g:List Jp) (w:World) (hr0:Kd.C kJp w A0 f.length f) (hr1:Kd.C kJp w A1 g.length g) (hlf:f.length<=100000) (hlg:g.length<=100000) :
  Calls Tryz.prog 110 #[.slice A0 f.length c0,.slice A1 g.length c1] w fun e w'=>∃ A c,e = .returned (.slice A (foldW g (foldW f [])).length c)/\(foldW g (foldW f [])).length<=c/\Kd.C kI w' A (foldW g (foldW f [])).length (foldW g (foldW f []))/\Below w.heap.size w w':=by
 have huI:=Tryz.underlying53;have HR:=Hd hr0;have HR2:=Hd hr1;have HL:=Hd (And.intro hlf hlg);have HQQ:=Hd (show ([]:List Int).Pairwise (· < ·)/\([]:List Int).length+f.length<=900000 from ⟨List.Pairwise.nil,by simp;omega⟩);clear hr0 hr1 hlf hlg;go_enter Tryz.func110,Tryz.ntmps110
 go_wp2_with ((with_reducible refine gate_dst (N:=8) rfl ?_);refine Kd.R_lit kI _ tI ?hg (N:=8) ?hd (xs:=([]:List Int)) (inner:=[]) (ok:=fun _=>True) (okp:=fun _=>True) ?hr ?hp (fun _ hk=>hk) trivial (Below.refl _ _) (Nat.le_refl _) zq30 ?_;(case hd=>rfl);(case hg=>rfl);(case hr=>first | (go_simp;done) | (go_simp;rfl));(case hp=>exact (Reps.none _ _));intro vL wL ho hb hg_ hnew_;obtain⟨AL,cL,rfl⟩:=Kd.R_slice ho;have HOL:=Hd (Kd.R_reads' ho);have HBL:=Hd hb;clear ho hb hg_ hnew_)
 go_loopw [5,6] (fun v5 vi wr=>∃ (i:Nat) (A5:Option Addr) (c5:Nat),i<=f.length/\vi = .int .i64 (i:Int)/\v5 = .slice A5 (foldW (f.take i) []).length c5/\Aside0 ((foldW (f.take i) []).length<=c5)/\Aside0 (Kd.C kI wr A5 (foldW (f.take i) []).length (foldW (f.take i) []))/\Aside0 (Below w.heap.size w wr)) (fun v5 vi wr=>f.length - (intOf vi).toNat)
 case atStart=>exact⟨0,AL,cL,Nat.zero_le _,rfl,rfl,⟨Nat.zero_le _⟩,⟨HOL.out.2.2⟩,⟨HBL.out⟩⟩
 case round =>
  obtain⟨i,A5,c5,hi,rfl,rfl,HC,HK,HB⟩:=hrel
  by_cases c:i<f.length
  ·
   obtain⟨Y,hY⟩:∃ Y,f[i]=Y:=⟨_,rfl⟩
   obtain⟨ad,e1,x0,_⟩:=at_T85 (Kd.C_below HR.out HB.out) (i:Int) zq4 zq4;rw[Int.toNat_natCast,rdJ f i c,hY] at x0;cases e1;have HS:=Hd (show foldW (f.take (i+1)) []=withI Y.f0 (foldW (f.take i) []) by rw[foldW_snoc f [] i c,hY]);obtain⟨hin,hln⟩:=foldW_inc (f.take i) [] HQQ.out.1;have WC:=Hd (hwith_calls A5 c5 (foldW (f.take i) []) Y.f0 wr HK.out HC.out (by have h1:=HQQ.out.2;rw[List.length_take] at hln;omega) hin);rw[<- HS.out] at WC;have pI:(0<=(i:Int))=True:=eq_true zq4;have qI:((i:Int)<(f.length:Int))=True:=eq_true zq4;have hwr:=wrapN i (by have:=HQQ.out.2;omega);clear hin hln hY
   go_wp2_with (go_at_call 140;refine hold3 ?_)
   refine⟨?_⟩;refine WC.out.mono ?_;rintro e w3 ⟨A6,c6,rfl,h6,hK6,hb3⟩;have HB3:=Hd (HB.out.trans (hb3.mono HB.out.size));have H6:=Hd h6;have HK6:=Hd hK6;clear hb3 WC x0 h6 hK6;go_wp2;go_roundw
   case rel=>exact⟨i+1,A6,c6,c,(by first | rw[hwr] | go_num),rfl,⟨H6.out⟩,⟨HK6.out⟩,⟨HB3.out⟩⟩
   case measure=>first | (rw[hwr];simp[intOf];omega) | (simp[intOf];omega)
  ·obtain rfl:i=f.length:=by omega
   rw[List.take_length] at HC HK ⊢;obtain⟨acc,hacc⟩:∃ z,foldW f []=z:=⟨_,rfl⟩
   have HQ2:=Hd (show acc.Pairwise (· < ·)/\acc.length+g.length<=900000 by
    obtain⟨h1,h2⟩:=foldW_inc f [] List.Pairwise.nil;rw[hacc] at h1 h2;refine⟨h1,?_⟩;simp only[List.length_nil] at h2;have:=HL.out;omega)
   rw[hacc] at HC HK ⊢;have HAE:=Hd hacc;clear hacc HQQ;go_wp2
   go_loopw [5,7] (fun v5 vi wr=>∃ (i:Nat) (A5:Option Addr) (c5:Nat),i<=g.length/\vi = .int .i64 (i:Int)/\v5 = .slice A5 (foldW (g.take i) acc).length c5/\Aside0 ((foldW (g.take i) acc).length<=c5)/\Aside0 (Kd.C kI wr A5 (foldW (g.take i) acc).length (foldW (g.take i) acc))/\Aside0 (Below w.heap.size w wr)) (fun v5 vi wr=>g.length - (intOf vi).toNat)
   case atStart=>exact⟨0,A5,c5,Nat.zero_le _,rfl,rfl,⟨HC.out⟩,⟨HK.out⟩,⟨HB.out⟩⟩
   case round =>
    clear HC HK HB;obtain⟨i,A5,c5,hi,rfl,rfl,HC,HK,HB⟩:=hrel
    by_cases c:i<g.length
    ·
     obtain⟨Y,hY⟩:∃ Y,g[i]=Y:=⟨_,rfl⟩
     obtain⟨ad,e1,x0,_⟩:=at_T85 (Kd.C_below HR2.out HB.out) (i:Int) zq4 zq4;rw[Int.toNat_natCast,rdJ g i c,hY] at x0;cases e1;have HS:=Hd (show foldW (g.take (i+1)) acc=withI Y.f0 (foldW (g.take i) acc) by rw[foldW_snoc g acc i c,hY]);obtain⟨hin,hln⟩:=foldW_inc (g.take i) acc HQ2.out.1;have WC:=Hd (hwith_calls A5 c5 (foldW (g.take i) acc) Y.f0 wr HK.out HC.out (by have h1:=HQ2.out.2;rw[List.length_take] at hln;omega) hin);rw[<- HS.out] at WC;have pI:(0<=(i:Int))=True:=eq_true zq4;have qI:((i:Int)<(g.length:Int))=True:=eq_true zq4;have hwr:=wrapN i (by have:=HQ2.out.2;omega);clear hin hln hY
     go_wp2_with (go_at_call 140;refine hold3 ?_)
     refine⟨?_⟩;refine WC.out.mono ?_;rintro e w3 ⟨A6,c6,rfl,h6,hK6,hb3⟩;have HB3:=Hd (HB.out.trans (hb3.mono HB.out.size));have H6:=Hd h6;have HK6:=Hd hK6;clear hb3 WC x0 h6 hK6;go_wp2;go_roundw
     case rel=>exact⟨i+1,A6,c6,c,(by first | rw[hwr] | go_num),rfl,⟨H6.out⟩,⟨HK6.out⟩,⟨HB3.out⟩⟩
     case measure=>first | (rw[hwr];simp[intOf];omega) | (simp[intOf];omega)
    ·obtain rfl:i=g.length:=by omega
     rw[List.take_length] at HC HK ⊢;go_wp2;go_ret;rw[HAE.out];exact⟨A5,c5,rfl,HC.out,HK.out,HB.out⟩
theorem placeS_fold_len:∀ (l:List Jp) (acc:List Int),(l.foldl placeS acc).length<=acc.length+l.length
 | [],acc=>by simp
 | x :: xs,acc=>by
  have h1:=placeS_fold_len xs (placeS acc x);have h2:=placeS_len acc x;rw[List.foldl_cons];simp only[List.length_cons];omega
theorem told09' (ps vs:List Int) (hl:ps.length<=1000000) (hv:vs.length=ps.length) (hb:∀ v ∈ vs,-2305843009213693952<=v/\v<=2305843009213693952):EvP.U (fun k=>r09_Told.f k ps vs) (toldJ (toldI ps vs 0)):=by
 have h:=told_l0 ps vs hl hv hb _ 0 [] 0 rfl (Nat.zero_le _) (Nat.zero_le _) zq4;unfold r09_Told.f;exact h
abbrev plc (l:List Jp) (i:Nat):List Int:=(l.take i).foldl placeS []
theorem hnorm09_calls (A0:Option Addr) (c0:Nat) (l:List Jp) (w:World) (hr0:Kd.C kJp w A0 l.length l) (hc0:l.length<=c0) (hl:l.length<=1000000) :
  Calls Tryz.prog 93 #[.slice A0 l.length c0] w fun e w'=>∃ v,e = .returned (.tuple #[v,.int .i64 (normJ l).2])/\Kd.R kJp tJ w' w.heap.size (fun _=>True) v (normJ l).1/\Below w.heap.size w w':=by
 have huI:=Tryz.underlying53;have HR:=Hd hr0;have HL:=Hd hl;have VC:=Hd (fun (hf:Fair l) (t:Int) (W:World) (h:Below w.heap.size w W)=>(value09 l t hf hl).get.elim fun k hk=>r09_Value.calls k A0 c0 l t (valI l t) W (Kd.C_below hr0 h) hc0 hk);clear hr0 hc0 hl;go_enter Tryz.func93,Tryz.ntmps93;go_wp2
 go_loopw [4] (fun v4 wr=>∃ (i:Nat),i<=l.length/\v4 = .int .i64 (i:Int)/\Aside0 (∀ x ∈ l.take i,fairB x.f1=true)/\Aside0 (Below w.heap.size w wr)) (fun v4 wr=>l.length - (intOf v4).toNat)
 case atStart=>exact⟨0,Nat.zero_le _,rfl,⟨by simp⟩,⟨Below.refl _ _⟩⟩
 case round =>
  obtain⟨i,hi,rfl,HF,HB⟩:=hrel
  by_cases c:i<l.length
  ·obtain⟨Y,hY⟩:∃ Y,l[i]=Y:=⟨_,rfl⟩
   obtain⟨ad,e1,_,x1⟩:=at_T85 (Kd.C_below HR.out HB.out) (i:Int) zq4 zq4;rw[Int.toNat_natCast,rdJ l i c,hY] at x1;cases e1;have HTK:=Hd (show l.take (i+1)=l.take i ++ [Y] by rw[List.take_add_one,List.getElem?_eq_getElem c,hY];rfl);have HYM:=Hd (show Y ∈ l by rw[<- hY];exact List.getElem_mem c);have pI:(0<=(i:Int))=True:=eq_true zq4;have qI:((i:Int)<(l.length:Int))=True:=eq_true zq4;have hwr:=wrapN i (by have:=HL.out;omega);clear hY;cases hfb:fairB Y.f1 with
   | false =>
    have HV:=Hd (show normJ l=([],2) by unfold normJ;rw[if_pos (List.any_eq_true.2 ⟨Y,HYM.out,by rw[hfb];rfl⟩)])
    by_cases h1:Y.f1 > 1048576
    ·have b1:decide (Y.f1 > 1048576)=true:=DET h1
     clear h1 hfb;go_wp2;go_ret2;rw[HV.out];exact⟨_,rfl,Kd.R_nil _ _ _ _ _,HB.out⟩
    ·have b1:decide (Y.f1 > 1048576)=false:=DEF h1
     have b2:decide (Y.f1 < -1048576)=true:=DET (by
      unfold fairB at hfb;rw[Bool.and_eq_false_iff] at hfb
      rcases hfb with h | h
      ·have:=of_decide_eq_false h;omega
      ·have:=of_decide_eq_false h;omega)
     clear h1 hfb;go_wp2;go_ret2;rw[HV.out];exact⟨_,rfl,Kd.R_nil _ _ _ _ _,HB.out⟩
   | true =>
    have hf2:=okFair hfb;have b1:decide (Y.f1 > 1048576)=false:=DEF zq4;have b2:decide (Y.f1 < -1048576)=false:=DEF zq4;have HF2:=Hd (show ∀ x ∈ l.take (i+1),fairB x.f1=true by
     intro x hx;rw[HTK.out,List.mem_append,List.mem_singleton] at hx
     rcases hx with hx | hx
     ·exact HF.out x hx
     ·rw[hx];exact hfb)
    clear hf2 hfb;go_wp2;go_roundw
    case rel=>exact⟨i+1,c,(by first | rw[hwr] | go_num),⟨HF2.out⟩,⟨HB.out⟩⟩
    case measure=>first | (rw[hwr];simp[intOf];omega) | (simp[intOf];omega)
  ·obtain rfl:i=l.length:=by omega
   rw[List.take_length] at HF;have HFR:=Hd (show Fair l from fun x hx=>okFair (HF.out x hx));have HN2:=Hd (show (l.any fun x => !fairB x.f1)=false from List.any_eq_false.2 fun x hx=>by rw[HF.out x hx];decide);clear HF
   go_wp2_with ((with_reducible refine gate_dst (N:=29) rfl ?_);refine Kd.R_lit kI _ tI ?hg (N:=29) ?hd (xs:=([]:List Int)) (inner:=[]) (ok:=fun _=>True) (okp:=fun _=>True) ?hr ?hp (fun _ hk=>hk) trivial (Below.refl _ _) (Nat.le_refl _) zq30 ?_;(case hd=>rfl);(case hg=>rfl);(case hr=>first | (go_simp;done) | (go_simp;rfl));(case hp=>exact (Reps.none _ _));intro vL wL ho hb hg_ hnew_;obtain⟨AL,cL,rfl⟩:=Kd.R_slice ho;have HOL:=Hd (Kd.R_reads' ho);have HBL:=Hd (HB.out.trans (hb.mono HB.out.size));clear ho hb hg_ hnew_)
   go_loopw [5,6] (fun v5 v6 wr=>∃ (i:Nat) (A5:Option Addr) (c5:Nat),i<=l.length/\v6 = .int .i64 (i:Int)/\v5 = .slice A5 (plc l i).length c5/\Aside0 ((plc l i).length<=c5)/\Aside0 (Kd.C kI wr A5 (plc l i).length (plc l i))/\Aside0 (∀ x ∈ l.take i,timeB x.f0=false)/\Aside0 (Below w.heap.size w wr)) (fun v5 v6 wr=>l.length - (intOf v6).toNat)
   case atStart=>exact⟨0,AL,cL,Nat.zero_le _,rfl,rfl,⟨Nat.zero_le _⟩,⟨HOL.out.2.2⟩,⟨by simp⟩,⟨HBL.out⟩⟩
   case round =>
    clear HB HOL HBL;obtain⟨i,A5,c5,hi,rfl,rfl,HC,HK,HT,HB⟩:=hrel
    by_cases c:i<l.length
    ·obtain⟨Y,hY⟩:∃ Y,l[i]=Y:=⟨_,rfl⟩
     obtain⟨ad,e1,x0,_⟩:=at_T85 (Kd.C_below HR.out HB.out) (i:Int) zq4 zq4;rw[Int.toNat_natCast,rdJ l i c,hY] at x0;cases e1;have HTK:=Hd (show l.take (i+1)=l.take i ++ [Y] by rw[List.take_add_one,List.getElem?_eq_getElem c,hY];rfl);have HYM:=Hd (show Y ∈ l by rw[<- hY];exact List.getElem_mem c);have HPL:=Hd (show plc l (i+1)=placeS (plc l i) Y by unfold plc;rw[HTK.out,List.foldl_append];rfl);have pI:(0<=(i:Int))=True:=eq_true zq4;have qI:((i:Int)<(l.length:Int))=True:=eq_true zq4;have hwr:=wrapN i (by have:=HL.out;omega);have HLI:=Hd hi;clear hY
     by_cases h1:Y.f0 < -1
     ·have b1:decide (Y.f0 < -1)=true:=DET h1
      have HV:=Hd (show normJ l=([],13) by unfold normJ;rw[if_neg (by rw[HN2.out];decide),if_pos (List.any_eq_true.2 ⟨Y,HYM.out,by unfold timeB;rw[b1];rfl⟩)]);clear h1;go_wp2;go_ret2;rw[HV.out];exact⟨_,rfl,Kd.R_nil _ _ _ _ _,HB.out⟩
     ·have b1:decide (Y.f0 < -1)=false:=DEF h1
      by_cases h2:Y.f0 > 1125899906842624
      ·have b2:decide (Y.f0 > 1125899906842624)=true:=DET h2
       have HV:=Hd (show normJ l=([],13) by unfold normJ;rw[if_neg (by rw[HN2.out];decide),if_pos (List.any_eq_true.2 ⟨Y,HYM.out,by unfold timeB;rw[b1,b2];rfl⟩)]);clear h1 h2;go_wp2;go_ret2;rw[HV.out];exact⟨_,rfl,Kd.R_nil _ _ _ _ _,HB.out⟩
      ·have b2:decide (Y.f0 > 1125899906842624)=false:=DEF h2
       have HT2:=Hd (show ∀ x ∈ l.take (i+1),timeB x.f0=false by
        intro x hx;rw[HTK.out,List.mem_append,List.mem_singleton] at hx
        rcases hx with hx | hx
        ·exact HT.out x hx
        ·rw[hx];unfold timeB;rw[b1,b2];rfl)
       by_cases h3:Y.f0<1125899906842624
       ·have b3:decide (Y.f0<1125899906842624)=true:=DET h3
        have hS:placeS (plc l i) Y=withI Y.f0 (plc l i):=by unfold placeS;rw[if_pos h3]
        have WC:=Hd (hwith_calls A5 c5 (plc l i) Y.f0 wr HK.out HC.out (by have h:=placeS_fold_len (l.take i) [];have h2:=HL.out;rw[List.length_take] at h;simp only[List.length_nil] at h;unfold plc;omega) (places_fold (l.take i) [] List.Pairwise.nil).1);rw[<- hS, <- HPL.out] at WC;clear h1 h2 h3 hS
        go_wp2_with (go_at_call 140;refine hold3 ?_)
        refine⟨?_⟩;refine WC.out.mono ?_;rintro e w3 ⟨A6,c6,rfl,h6,hK6,hb3⟩;have HB3:=Hd (HB.out.trans (hb3.mono HB.out.size));have H6:=Hd h6;have HK6:=Hd hK6;clear hb3 WC x0 h6 hK6;go_wp2;go_roundw
        case rel=>exact⟨i+1,A6,c6,c,(by first | rw[hwr] | go_num),rfl,⟨H6.out⟩,⟨HK6.out⟩,⟨HT2.out⟩,⟨HB3.out⟩⟩
        case measure=>first | (rw[hwr];simp[intOf];omega) | (simp[intOf];omega)
       ·have b3:decide (Y.f0<1125899906842624)=false:=DEF h3
        have HS:=Hd (show plc l (i+1)=plc l i by rw[HPL.out];unfold placeS;rw[if_neg h3]);clear h1 h2 h3;go_wp2;go_roundw
        case rel=>exact⟨i+1,A5,c5,c,(by first | rw[hwr] | go_num),by rw[HS.out],⟨by rw[HS.out];exact HC.out⟩,⟨by rw[HS.out];exact HK.out⟩,⟨HT2.out⟩,⟨HB.out⟩⟩
        case measure=>first | (rw[hwr];simp[intOf];omega) | (simp[intOf];omega)
    ·obtain rfl:i=l.length:=by omega
     obtain⟨ps,hps⟩:∃ z,placesI l=z:=⟨_,rfl⟩
     have hpe:plc l l.length=ps:=by rw[<- hps];unfold plc placesI;rw[List.take_length]
     rw[List.take_length] at HT;have HPS:=Hd (show ps.length<=1000000 by have h:=placeS_fold_len l [];have h2:=HL.out;simp only[List.length_nil] at h;rw[<- hps];unfold placesI;omega);have HV:=Hd (show normJ l=toldJ (toldI ps (ps.map (valI l)) 0) by
      unfold normJ;rw[if_neg (by rw[HN2.out];decide),if_neg (by rw[Bool.not_eq_true,List.any_eq_false];intro x hx;rw[HT.out x hx];decide), <- told_canon l (fun x hx=>by
       have h:=HT.out x hx;unfold timeB at h;rw[Bool.or_eq_false_iff] at h;have:=of_decide_eq_false h.1;omega),hps])
     rw[hpe] at HC HK ⊢;have HP:=Hd (And.intro HC.out HK.out);have HBP:=Hd HB.out;obtain⟨w5,hw5⟩:∃ z,z=wr:=⟨_,rfl⟩
     subst hw5;clear HC HK HB HT hps hpe
     go_wp2_with ((with_reducible refine gate_dst (N:=63) rfl ?_);refine Kd.R_lit kI _ tI ?hg (N:=63) ?hd (xs:=([]:List Int)) (inner:=[]) (ok:=fun _=>True) (okp:=fun _=>True) ?hr ?hp (fun _ hk=>hk) trivial (Below.refl _ _) (Nat.le_refl _) zq30 ?_;(case hd=>rfl);(case hg=>rfl);(case hr=>first | (go_simp;done) | (go_simp;rfl));(case hp=>exact (Reps.none _ _));intro v7 w6 ho hb hg_ hnew_;obtain⟨A7,c7,rfl⟩:=Kd.R_slice ho;have HO6:=Hd ho;have HB6:=Hd hb;clear ho hb hg_ hnew_)
     go_loopw [7,8] (fun v7 v8 wr=>∃ (i:Nat) (A7:Option Addr) (c7:Nat),i<=ps.length/\v8 = .int .i64 (i:Int)/\v7 = .slice A7 i c7/\Aside0 (Kd.R kI tI wr w5.heap.size (fun _=>True) (.slice A7 i c7) ((ps.take i).map (valI l)))/\Aside0 (Below w5.heap.size w5 wr)) (fun v7 v8 wr=>ps.length - (intOf v8).toNat)
     case atStart=>exact⟨0,A7,c7,Nat.zero_le _,rfl,rfl,⟨HO6.out⟩,⟨HB6.out⟩⟩
     case round =>
      clear HO6 HB6;obtain⟨i,A7,c7,hi,rfl,rfl,HO,HB⟩:=hrel;have HBW:=Hd (HBP.out.trans (HB.out.mono HBP.out.size))
      by_cases c:i<ps.length
      ·obtain⟨p,hp⟩:∃ p,ps[i]=p:=⟨_,rfl⟩
       obtain⟨ad,e1,x0⟩:=Kd.at_int (Kd.C_below HP.out.2 HB.out) (i:Int) zq4 zq4;have hrd:rd ps (i:Int)=p:=by rw[rdI ps i c,hp]
       rw[Int.toNat_natCast,hrd] at x0;cases e1;have C1:=Hd (VC.out HFR.out p wr HBW.out);have HT:=Hd (show (ps.take (i+1)).map (valI l)=(ps.take i).map (valI l) ++ [valI l p] by rw[List.take_add_one,List.getElem?_eq_getElem c,hp];simp);obtain⟨a,ha⟩:∃ z,valI l p=z:=⟨_,rfl⟩
       rw[ha] at C1 HT;have HLI:=Hd (show i<=1000000 by have:=HPS.out;omega);have pI:(0<=(i:Int))=True:=eq_true zq4;have qI:((i:Int)<(ps.length:Int))=True:=eq_true zq4;have hwr:=wrapN i (by have:=HPS.out;omega);clear hrd hp ha
       go_wp2_with (go_at_call 25;refine hold3 ?_)
       refine⟨?_⟩;refine C1.out.mono ?_;rintro e w7 ⟨rfl,hd7⟩;have HO7:=Hd (Kd.R_below HO.out hd7.below);have HB7:=Hd (HB.out.trans (hd7.below.mono HB.out.size));clear hd7 C1 x0
       go_wp2_with ((with_reducible refine gate_dst (N:=78) rfl ?_);at_builtin;refine Kd.R_append kI (w0:=w5) w5.heap.size rfl (.tmp 70) (.tmp 77) 53 tI (.int .i64 0) 8 rfl huI info3 rfl zq34 zq4 (.slice A7 i c7) _ a [.int .i64 a] (fun _=>True) (fun _=>False) rfl rfl ?aP (fun _ h=>h.elim) (fun _ _=>trivial) HO7.out HB7.out HB7.out.size ?aL ?_;(case aP=>rfl);(case aL=>have:=HLI.out;rw[List.length_map,List.length_take];omega);intro vA w8 ho hb hg_ hnew_;have HO8:=Hd ho;have HB8:=Hd hb;clear ho hb hg_ hnew_)
       rw[<- HT.out] at HO8;obtain⟨A8,c8,hv8⟩:=Kd.R_slice HO8.out;rw[List.length_map,List.length_take,Nat.min_eq_left c] at hv8;subst hv8;go_roundw
       case rel=>exact⟨i+1,A8,c8,c,(by first | rw[hwr] | go_num),rfl,⟨HO8.out⟩,⟨HB8.out⟩⟩
       case measure=>first | (rw[hwr];simp[intOf];omega) | (simp[intOf];omega)
      ·obtain rfl:i=ps.length:=by omega
       obtain⟨vl,hvl⟩:∃ z,ps.map (valI l)=z:=⟨_,rfl⟩
       have hvn:vl.length=ps.length:=by rw[<- hvl,List.length_map]
       rw[List.take_length,hvl] at HO;rw[hvl] at HV;obtain⟨kt,hkt⟩:=(told09' ps vl HPS.out hvn (fun v hv=>by
        rw[<- hvl] at hv;obtain⟨p,_,rfl⟩:=List.mem_map.1 hv;have h:=valI_bound p l HFR.out;have h2:=HL.out;omega)).get
       have hC:=(Kd.R_reads' HO.out).2.2;rw[hvn] at hC;have TC:=Hd (r09_Told.calls kt A5 c5 ps A7 c7 vl (toldJ (toldI ps vl 0)).1 (toldJ (toldI ps vl 0)).2 wr (Kd.C_below HP.out.2 HB.out) HP.out.1 (by rw[hvn];exact hC) (by rw[hvn];exact (Kd.R_reads' HO.out).2.1) (by rw[hkt]));rw[hvn, <- HV.out] at TC;clear hkt hC hvl hvn
       go_wp2_with (go_at_call 111;refine hold3 ?_)
       refine⟨?_⟩;refine TC.out.mono ?_;rintro e w9 ⟨v9,rfl,hR9,hb9⟩;have HR9:=Hd (Kd.R_lower hR9 HBW.out.size);have HB9:=Hd (HBW.out.trans (hb9.mono HBW.out.size));clear hR9 hb9 TC;go_wp2;go_ret2;exact⟨v9,rfl,HR9.out,HB9.out⟩
end Go.Proofs.YtmkgecapkeojaaaGreat.Eg
end
section
namespace Go.Proofs.YtmkgecapkeojaaaGreat.Eg
open PDa
open RowKit YtmkgecapkeojaaaGreatW.PrintWords YtmkgecapkeojaaaGreatW.PrintLast YtmkgecapkeojaaaGreatW.PrintMore
open Stp Run Rw
def refL (g:List Jp->List Jp × Int) (out:List EdP):List (List Vl × List Jp)->List EdP × Int
 | []=>if 4096<out.length then ([],7) else (out,0)
 | x :: xs=>if (g x.2).2 ≠ 0 then ([],(g x.2).2) else refL g (putP out x.1 (g x.2).1) xs
theorem putP_len (out:List EdP) (r:List Vl) (f:List Jp):(putP out r f).length=out.length+f.length:=by simp[putP]
theorem refL_full (g:List Jp->List Jp × Int):∀ (xs:List (List Vl × List Jp)) (out:List EdP),(∀ x ∈ xs,(g x.2).2 ≠ 0->(g x.2).2=7)->4096<out.length->refL g out xs=([],7)
 | [],out,_,h=>by rw[refL,if_pos h]
 | x :: xs,out,hx,h=>by
  rw[refL]
  split
  ·rename_i c;rw[hx x List.mem_cons_self c]
  ·exact refL_full g xs _ (fun y hy=>hx y (List.mem_cons_of_mem _ hy)) (by rw[putP_len];omega)
theorem refL_map (g:List Jp->List Jp × Int):∀ (xs:List (List Vl × List Jp)) (out:List EdP),(∀ x ∈ xs,(g x.2).2 ≠ 0->(g x.2).2=7)->out.length<=4096->refL g out xs=mapR g out xs
 | [],out,_,h=>by rw[refL,if_neg zq4,mapR]
 | x :: xs,out,hx,h=>by
  rw[refL,mapR]
  split
  ·rfl
  ·split
   ·rename_i c;exact refL_full g xs _ (fun y hy=>hx y (List.mem_cons_of_mem _ hy)) c
   ·exact refL_map g xs _ (fun y hy=>hx y (List.mem_cons_of_mem _ hy)) zq4
theorem refL_drop (g:List Jp->List Jp × Int) (out:List EdP) (gs:List (List Vl × List Jp)) (i:Nat) (h:i<gs.length):refL g out (gs.drop i)=if (g gs[i].2).2 ≠ 0 then ([],(g gs[i].2).2) else refL g (putP out gs[i].1 (g gs[i].2).1) (gs.drop (i+1)):=by
 rw[List.drop_eq_getElem_cons h,refL]
theorem argE_parts {x:EdP} (h:argE x=false):rowMay x.f0=true/\x.f2<=1048576 /\ -1048576<=x.f2:=by
 unfold argE at h;rw[Bool.or_eq_false_iff,Bool.or_eq_false_iff] at h;obtain⟨h1,h2,h3⟩:=h;exact⟨by simpa using h1,by have:=of_decide_eq_false h2;omega,by have:=of_decide_eq_false h3;omega⟩
theorem norm_seven (l:List EdP) (r:List Vl) (h:∀ e ∈ l,argE e=false) (ht:∀ e ∈ l,timeB e.f1=false):(normJ (jumpsOf l r)).2 ≠ 0->(normJ (jumpsOf l r)).2=7:=by
 unfold normJ;have h1:(jumpsOf l r).any (fun x => !fairB x.f1)=false:=by
  rw[List.any_eq_false];intro x hx;obtain⟨e,he,rfl⟩:=List.mem_map.1 hx;have:=argE_parts (h e (List.mem_filter.1 he).1);have:fairB (jmpE e).f1=true:=by
   show fairB e.f2=true
   unfold fairB;rw[DET this.2.1,DET this.2.2];rfl
  rw[this];decide
 have h2:(jumpsOf l r).any (fun x=>timeB x.f0)=false:=by
  rw[List.any_eq_false];intro x hx;obtain⟨e,he,rfl⟩:=List.mem_map.1 hx;rw[show timeB (jmpE e).f0=false from ht e (List.mem_filter.1 he).1];decide
 rw[if_neg (by rw[h1];decide),if_neg (by rw[h2];decide)];unfold toldJ
 split <;> simp
theorem normV_ok (l:List EdP) (h:∀ e ∈ l,argE e=false) (ht:∀ e ∈ l,timeB e.f1=false):normV l=refL normJ [] (groups l):=by
 unfold normV;rw[if_neg (by rw[Bool.not_eq_true,List.any_eq_false];intro e he;rw[h e he];decide),if_neg (by rw[Bool.not_eq_true,List.any_eq_false];intro e he;rw[ht e he];decide)];refine (refL_map normJ _ _ (fun x hx=>?_) zq30).symm;obtain⟨r,_,rfl⟩:=List.mem_map.1 hx;exact norm_seven l r h ht
theorem rowsx_len (l:List EdP):(rowsOf l).length<=l.length:=by
 unfold rowsOf
 induction l with
 | nil=>simp
 | cons e es ih =>
  rw[List.map_cons,List.foldr_cons];have:=rowIns_len e.f0 ((es.map (·.f0)).foldr rowIns []);simp only[List.length_cons];omega
theorem normJ_len2 (f:List Jp):(normJ f).1.length<=1024:=by
 unfold normJ toldJ
 repeat' split
 all_goals first | exact Nat.zero_le _ | (rename_i h;exact mayJ_len h)
structure Hold2 (p:Prop):Prop where
 out:p
theorem hold2 {p:Prop} (h:Hold2 p):p:=h.out
theorem refnorm_calls (A0:Option Addr) (c0:Nat) (l:List EdP) (w:World) (hr0:Kd.C kE w A0 l.length l) (hc0:l.length<=c0) (hl:l.length<=1000000) :
  Calls Tryz.prog 58 #[.slice A0 l.length c0] w fun e w'=>∃ v,e = .returned (.tuple #[v,.int .i64 (normV l).2])/\Kd.R kE tE w' w.heap.size (fun _=>True) v (normV l).1/\Below w.heap.size w w':=by
 have HR:=Hd hr0;have HC:=Hd hc0;have HL:=Hd hl;have MC:=Hd (fun (r:List Vl) (A:Option Addr) (c:Nat) (w1:World) (hC:Kd.C kV w1 A r.length r) (hc:r.length<=c)=>(EvP.mayR r).get.elim fun k hk=>r06_May.calls k A c r _ w1 hC hc hk);clear hr0 hc0;go_enter Tryz.func58,Tryz.ntmps58;go_wp2
 go_loopw [4] (fun v4 wr=>∃ (i:Nat),i<=l.length/\v4 = .int .i64 (i:Int)/\Aside0 (∀ x ∈ l.take i,argE x=false)/\Aside0 (Below w.heap.size w wr)) (fun v4 wr=>l.length - (intOf v4).toNat)
 case atStart=>exact⟨0,Nat.zero_le _,rfl,⟨by simp⟩,⟨Below.refl _ _⟩⟩
 case round =>
  obtain⟨i,hi,rfl,HE,HB⟩:=hrel
  by_cases c:i<l.length
  ·obtain⟨X,hX⟩:∃ X,l[i]=X:=⟨_,rfl⟩
   obtain⟨ad,Ax,cx,e1,x0,x1,x2,x3,x4⟩:=at_T41 (Kd.C_below HR.out HB.out) (i:Int) zq4 zq4;rw[Int.toNat_natCast,rdE l i c,hX] at x0 x1 x2;rw[rdE l i c,hX] at x3 x4;cases e1;have MX:=Hd (MC.out X.f0 Ax cx wr x4 x3);have HX:=Hd hX;have HX2:=Hd x2;have HL1:=Hd (show l.take (i+1)=l.take i ++ [X] by rw[List.take_add_one,List.getElem?_eq_getElem c,hX];rfl);have HM:=Hd (show X ∈ l by rw[<- hX];exact List.getElem_mem c);clear x1 x2 x3 x4 hX
   go_wp2_with (go_at_call 69;refine hold2 ?_)
   refine⟨?_⟩;refine MX.out.mono ?_;rintro e w1 ⟨rfl,hb1⟩;have z2:=pw_cell_below hb1 HX2.out;have HB1:=Hd (HB.out.trans (hb1.mono HB.out.size));clear MX hb1;cases hbad:argE X with
   | true =>
    have HV:=Hd (show normV l=([],2) by unfold normV;rw[if_pos (List.any_eq_true.2 ⟨X,HM.out,hbad⟩)]);cases hm:rowMay X.f0 with
    | false =>
     go_wp2;go_ret2;rw[HV.out];exact⟨_,rfl,Kd.R_nil _ _ _ _ _,HB1.out⟩
    | true =>
     unfold argE at hbad;rw[hm,Bool.not_true,Bool.false_or] at hbad
     by_cases c1:X.f2 > 1048576
     ·have b1:decide (X.f2 > 1048576)=true:=DET c1
      go_wp2;go_ret2;rw[HV.out];exact⟨_,rfl,Kd.R_nil _ _ _ _ _,HB1.out⟩
     ·have b1:decide (X.f2 > 1048576)=false:=DEF c1
      rw[b1,Bool.false_or] at hbad;go_wp2;go_ret2;rw[HV.out];exact⟨_,rfl,Kd.R_nil _ _ _ _ _,HB1.out⟩
   | false =>
    obtain⟨hm,h1,h2⟩:=argE_parts hbad;have b1:decide (X.f2 > 1048576)=false:=DEF zq4;have b2:decide (X.f2 < -1048576)=false:=DEF zq4;rw[hm];go_wp2;go_roundw
    case rel =>
     refine⟨i+1,by omega,by go_num,⟨fun x hx=>?_⟩,⟨HB1.out⟩⟩;rw[HL1.out,List.mem_append] at hx
     rcases hx with hx | hx
     ·exact HE.out x hx
     ·rw[List.mem_singleton] at hx;rw[hx];exact hbad
    case measure=>simp[intOf];omega
  ·obtain rfl:i=l.length:=by omega
   have HARG:=Hd (show ∀ x ∈ l,argE x=false by have:=HE.out;rw[List.take_length] at this;exact this);have HBa:=Hd HB.out;clear HE HB;go_wp2
   go_loopw [5] (fun v5 wr=>∃ (i:Nat),i<=l.length/\v5 = .int .i64 (i:Int)/\Aside0 (∀ x ∈ l.take i,timeB x.f1=false)/\Aside0 (Below w.heap.size w wr)) (fun v5 wr=>l.length - (intOf v5).toNat)
   case atStart=>exact⟨0,Nat.zero_le _,rfl,⟨by simp⟩,⟨HBa.out⟩⟩
   case round =>
    obtain⟨i,hi,rfl,HE,HB⟩:=hrel
    by_cases c:i<l.length
    ·obtain⟨X,hX⟩:∃ X,l[i]=X:=⟨_,rfl⟩
     obtain⟨ad,Ax,cx,e1,x0,x1,x2,x3,x4⟩:=at_T41 (Kd.C_below HR.out HB.out) (i:Int) zq4 zq4;rw[Int.toNat_natCast,rdE l i c,hX] at x0 x1 x2;cases e1;have HL1:=Hd (show l.take (i+1)=l.take i ++ [X] by rw[List.take_add_one,List.getElem?_eq_getElem c,hX];rfl);have HM:=Hd (show X ∈ l by rw[<- hX];exact List.getElem_mem c);clear x0 x2 x3 x4 hX;have HV:=Hd (fun h:timeB X.f1=true=>show normV l=([],13) by
      unfold normV;rw[if_neg (by rw[Bool.not_eq_true,List.any_eq_false];intro e he;rw[HARG.out e he];decide),if_pos (List.any_eq_true.2 ⟨X,HM.out,h⟩)])
     by_cases c1:X.f1 < -1
     ·have b1:decide (X.f1 < -1)=true:=DET c1
      have HV2:=Hd (HV.out (by unfold timeB;rw[b1];rfl));go_wp2;go_ret2;rw[HV2.out];exact⟨_,rfl,Kd.R_nil _ _ _ _ _,HB.out⟩
     ·have b1:decide (X.f1 < -1)=false:=DEF c1
      by_cases c2:X.f1 > 1125899906842624
      ·have b2:decide (X.f1 > 1125899906842624)=true:=DET c2
       have HV2:=Hd (HV.out (by unfold timeB;rw[b1,b2];rfl));go_wp2;go_ret2;rw[HV2.out];exact⟨_,rfl,Kd.R_nil _ _ _ _ _,HB.out⟩
      ·have b2:decide (X.f1 > 1125899906842624)=false:=DEF c2
       have HT:=Hd (show timeB X.f1=false by unfold timeB;rw[b1,b2];rfl);clear HV;go_wp2;go_roundw
       case rel =>
        refine⟨i+1,by omega,by go_num,⟨fun x hx=>?_⟩,⟨HB.out⟩⟩;rw[HL1.out,List.mem_append] at hx
        rcases hx with hx | hx
        ·exact HE.out x hx
        ·rw[List.mem_singleton] at hx;rw[hx];exact HT.out
       case measure=>simp[intOf];omega
    ·obtain rfl:i=l.length:=by omega
     have HTM:=Hd (show ∀ x ∈ l,timeB x.f1=false by have:=HE.out;rw[List.take_length] at this;exact this);obtain⟨wB,hwB⟩:∃ x,x=wr:=⟨_,rfl⟩
     rw[<- hwB] at HB ⊢;clear hwB HE HBa;have HBB:=Hd HB.out;clear HB
     go_wp2_with (go_at_call 66;refine hold2 ?_)
     refine⟨?_⟩;have HBC:=Hd (below_alloc (Below.refl _ wB) (.cells #[] tE (0,0)));obtain⟨wC,hwC⟩:∃ x,x=wB.alloc (.cells #[] tE (0,0)):=⟨_,rfl⟩
     have hsC:wC.heap.size=wB.heap.size+1:=by rw[hwC,World.size_alloc]
     have hoC:Kd.R kE tE wC wB.heap.size (fun _=>True) (.slice (some ⟨wB.heap.size,0,none⟩) 0 0) []:=⟨fun _ _=>trivial,[],⟨rfl,.inr ⟨wB.heap.size,0,#[],rfl,Nat.le_refl _,by rw[hwC];exact blk_new wB _,Nat.le_refl _,Nat.zero_le _,rfl,rfl⟩⟩,Reps.none _ _⟩
     rw[<- hwC] at HBC ⊢;clear hwC;have HSC:=Hd hsC;have HOC:=Hd hoC;clear hsC hoC;refine (hrows_calls A0 c0 l w wC HR.out (HBB.out.trans (HBC.out.mono HBB.out.size)) (by have:=HL.out;omega) (fun e he=>(argE_parts (HARG.out e he)).1)).mono ?_;rintro e w1 ⟨vr,rfl,hN,hb1⟩;obtain⟨Ar,cr,rfl⟩:=Kd.R_slice hN;obtain⟨RS,hRS⟩:∃ z,rowsOf l=z:=⟨_,rfl⟩
     rw[hRS] at hN ⊢;have HRS:=Hd hRS;have HF1:=Hd hN;have HB1:=Hd ((HBB.out.trans (HBC.out.mono HBB.out.size)).trans (hb1.mono (by have:=HBB.out.size;have:=HSC.out;omega)));have HOW:=Hd (Kd.R_lower (Kd.R_below HOC.out hb1) HBB.out.size);have HSZ:=Hd hb1.size;have HGR:=Hd (show groups l=RS.map fun r=>(r,jumpsOf l r) by unfold groups;rw[hRS]);have HRL:=Hd (show RS.length<=1000000 by
      have h1:=rowsx_len l;rw[hRS] at h1;have:=HL.out;omega)
     have HRM:=Hd (show ∀ r ∈ RS,rowMay r=true by
      intro r hr;rw[<- hRS,rowsOf_mem] at hr;obtain⟨e,he,rfl⟩:=hr;exact (argE_parts (HARG.out e he)).1)
     clear hN hb1 hRS;go_wp2
     go_loopw [6,8] (fun v6 v8 wr=>∃ (i:Nat) (out:List EdP) (A6:Option Addr) (c6:Nat),i<=RS.length/\v8 = .int .i64 (i:Int)/\v6 = .slice A6 out.length c6/\Aside0 (Kd.R kE tE wr w.heap.size (fun _=>True) (.slice A6 out.length c6) out)/\Aside0 (Below w.heap.size w wr)/\Aside0 (w1.heap.size<=wr.heap.size) /\
      Aside0 (∀ k,(((k<wB.heap.size\/wC.heap.size<=k)/\k<w1.heap.size)->wr.heap[k]? = w1.heap[k]?))/\Aside0 (∀ b,(Value.slice A6 out.length c6).ownBlock=some b->(wB.heap.size<=b/\b<wC.heap.size)\/w1.heap.size<=b) /\
      Aside0 (refL normJ [] (groups l)=refL normJ out ((groups l).drop i))/\Aside0 (out.length<=1024*i)) (fun v6 v8 wr=>RS.length - (intOf v8).toNat)
     case atStart=>exact⟨0,[],_,_,Nat.zero_le _,rfl,rfl,⟨HOW.out⟩,⟨HB1.out⟩,⟨Nat.le_refl _⟩,⟨fun _ _=>rfl⟩,⟨fun b hb=>by injection hb with hb;have hb':wB.heap.size=b:=hb;have:=HSC.out;exact .inl ⟨by omega,by omega⟩⟩,⟨by rw[List.drop_zero]⟩,⟨Nat.le_refl _⟩⟩
     case round =>
      clear HBB HBC HOC HOW HB1 MC;obtain⟨i,out,A6,c6,hi,rfl,rfl,HO,HB,HSW,HKP,HOB,HEQ,HLN⟩:=hrel
      by_cases c:i<RS.length
      ·have HFr:=Hd (Kd.R_step (Kd.R_tight rfl HF1.out) (fun k hk hlt=>HKP.out k ⟨.inr (Kd.R_base HF1.out k hk.symm),hlt⟩))
       obtain⟨r,hr⟩:∃ r,RS[i]=r:=⟨_,rfl⟩
       obtain⟨ad,Ax,cx,hA,x0,hxl,hx0⟩:=at_H (Kd.R_reads' HFr.out).2.2 i r (by rw[List.getElem?_eq_getElem c,hr]);cases hA;have hxC:=Kd.C_below hx0 HB.out;have HROW:=Hd (Kd.C_F k65_heap hx0);have HXC:=Hd hxC;have HXL:=Hd hxl;have HX0:=Hd x0;have HRMi:=Hd (HRM.out r (by rw[<- hr];exact List.getElem_mem c));have hgi:i<(groups l).length:=by rw[HGR.out,List.length_map];exact c
       have hgx:(groups l)[i]=(r,jumpsOf l r):=by
        have:(groups l)[i]? = some (r,jumpsOf l r):=by rw[HGR.out,List.getElem?_map,List.getElem?_eq_getElem c,hr];rfl
        rw[List.getElem?_eq_getElem hgi] at this;exact OSI this
       have HST:=Hd (show refL normJ [] (groups l)=if (normJ (jumpsOf l r)).2 ≠ 0 then ([],(normJ (jumpsOf l r)).2) else refL normJ (putP out r (normJ (jumpsOf l r)).1) ((groups l).drop (i+1)) by
        rw[HEQ.out,refL_drop normJ out (groups l) i hgi,hgx])
       obtain⟨kj,hkj⟩:=(jumps10 l r (fun e he=>by have:=may_len (argE_parts (HARG.out e he)).1;omega) (by have:=HL.out;omega)).get;have JC:=Hd (r10_Jumps.calls kj A0 c0 l Ax cx r (jumpsOf l r) wr (Kd.C_below HR.out HB.out) HC.out hxC hxl hkj);have pI:(0<=(i:Int))=True:=eq_true zq4;have qI:((i:Int)<(RS.length:Int))=True:=eq_true zq4;clear hx0 hxC hxl hkj HFr hgi hgx hr
       go_wp2_with (go_at_call 26;refine hold2 ?_)
       refine⟨?_⟩;refine JC.out.mono ?_;rintro e w2 ⟨vj,rfl,hRj,hb2⟩;obtain⟨Aj,cj,rfl⟩:=Kd.R_slice hRj;have NC:=Hd (hnorm09_calls Aj cj (jumpsOf l r) w2 (Kd.R_reads' hRj).2.2 (Kd.R_reads' hRj).2.1 (by have:=jumpsOf_len l r;have:=HL.out;omega));have HB2:=Hd hb2;clear hRj hb2 JC x0
       go_wp2_with (go_at_call 93;refine hold2 ?_)
       refine⟨?_⟩;refine NC.out.mono ?_;rintro e w3 ⟨vf,rfl,hRf,hb3⟩;obtain⟨Af,cf,rfl⟩:=Kd.R_slice hRf;have HB3:=Hd (HB2.out.trans (hb3.mono HB2.out.size));have HRF:=Hd hRf;have z0:=pw_cell_below HB3.out HX0.out;have HBw3:=Hd (HB.out.trans (HB3.out.mono HB.out.size));clear NC hRf hb3 HB2;obtain⟨fe,hfe⟩:∃ z,(normJ (jumpsOf l r)).2=z:=⟨_,rfl⟩
       obtain⟨ff,hff⟩:∃ z,(normJ (jumpsOf l r)).1=z:=⟨_,rfl⟩
       have HFL:=Hd (show ff.length<=1024 by rw[<- hff];exact normJ_len2 _);rw[hfe,hff] at HST;rw[hff] at HRF;rw[hfe,hff]
       by_cases ce:fe=0
       ·subst ce
        have HST2:=Hd (show refL normJ [] (groups l)=refL normJ (putP out r ff) ((groups l).drop (i+1)) by rw[HST.out,if_neg zq30]);have PC:=Hd (refput_calls w.heap.size (fun _=>True) (.slice A6 out.length c6) out Ax cx r Af cf ff w3 (Kd.R_below HO.out HB3.out) HBw3.out.size (fun _ _=>trivial) (fun k=>k<w.heap.size)
         (fun w4 h=>HROW.out w4 (fun k hk _=>(h k hk).trans (HBw3.out.block k hk))) (fun k hk=>⟨Nat.lt_of_lt_of_le hk HBw3.out.size,fun e'=>by have:=Kd.R_base HO.out k e'.symm;omega⟩) (Kd.R_lower HRF.out (Nat.zero_le _)) (by have:=may_len HRMi.out;omega) (by have:=HLN.out;have:=HFL.out;have:=HRL.out;omega))
        clear HST hfe hff HROW HXC HXL HRF;have hwr:=wrapN i (by have:=HRL.out;omega)
        go_wp2_with (go_at_call 68;refine hold2 ?_)
        refine⟨?_⟩;refine PC.out.mono ?_;rintro e w4 ⟨vp,rfl,hRp,hgr,hat⟩;obtain⟨Ap,cp,rfl⟩:=Kd.R_slice hRp;have HRP:=Hd hRp;have HGRW:=Hd hgr;have HAT:=Hd hat;clear hRp hgr hat PC;go_wp2;go_roundw
        case rel =>
         refine⟨i+1,putP out r ff,_,_,by omega,by rw[hwr],rfl,⟨HRP.out⟩,⟨?_⟩,⟨?_⟩,⟨?_⟩,⟨?_⟩,⟨HST2.out⟩,⟨?_⟩⟩
         ·exact pw_below_grown HBw3.out _ HBw3.out.size HGRW.out (fun k hk=>Kd.R_base HO.out k hk)
         ·have:=HSW.out;have:=HB3.out.size;have:=HGRW.out.size;omega
         ·intro k hk
          have h1:=HKP.out k hk;have h2:=HB3.out.block k (by have:=HSW.out;omega);have h3:=HGRW.out.block k (by have:=HSW.out;have:=HB3.out.size;omega) (fun e'=>by have:=HOB.out k e'.symm;omega);rw[h3,h2,h1]
         ·intro b hb
          rcases HAT.out with h | ⟨g,hg,hle⟩
          ·rw[h] at hb;exact HOB.out b hb
          ·rw[hg] at hb;injection hb with hb;have:=HSW.out;have:=HB3.out.size;exact .inr zq4
         ·have h1:=HLN.out;have h2:=HFL.out;rw[putP_len];omega
        case measure=>rw[hwr];simp[intOf];omega
       ·have HV:=Hd (show normV l=([],fe) by rw[normV_ok l HARG.out HTM.out,HST.out,if_pos ce])
        have b1:(fe == 0)=false:=BNM ce;have b2:(fe != 0)=true:=bne_iff_ne.mpr ce;clear HST hfe hff HROW HXC HXL HRF;go_wp2;go_ret2;rw[HV.out];exact⟨_,rfl,Kd.R_nil _ _ _ _ _,HBw3.out⟩
      ·obtain rfl:i=RS.length:=by omega
       have HV:=Hd (show normV l=if 4096<out.length then ([],7) else (out,0) by
        rw[normV_ok l HARG.out HTM.out,HEQ.out,HGR.out,List.drop_eq_nil_of_le (by rw[List.length_map];exact Nat.le_refl _),refL])
       by_cases c2:4096<out.length
       ·have b1:decide ((out.length:Int) > 4096)=true:=DET zq4
        go_wp2;go_ret2;rw[HV.out,if_pos c2];exact⟨_,rfl,Kd.R_nil _ _ _ _ _,HB.out⟩
       ·have b1:decide ((out.length:Int) > 4096)=false:=DEF zq4
        go_wp2;go_ret2;rw[HV.out,if_neg c2];exact⟨_,rfl,HO.out,HB.out⟩
end Go.Proofs.YtmkgecapkeojaaaGreat.Eg
end
section
namespace Go.Proofs.YtmkgecapkeojaaaGreat.Eg
open PDa
open RowKit YtmkgecapkeojaaaGreatW.PrintWords YtmkgecapkeojaaaGreatW.PrintLast YtmkgecapkeojaaaGreatW.PrintMore
open Stp Rw SortM
def chainA (l:List EdP):Nat->Bool
 | 0=>chain0 l
 | i+1=>match l[i]? with
  | some p=>chainB p (l.drop (i+1))
  | none=>true
theorem chainA_0 (l:List EdP) (h:0<l.length):chainA l 0=(okE l[0] && chainA l 1):=by
 cases l with
 | nil=>simp at h
 | cons e es=>rfl
theorem chainA_1 (l:List EdP) (i:Nat) (h:i+1<l.length):chainA l (i+1)=(okE l[i+1] && stepB l[i] l[i+1] && chainA l (i+2)):=by
 simp only[chainA];rw[List.getElem?_eq_getElem (show i<l.length by omega),List.getElem?_eq_getElem h,List.drop_eq_getElem_cons h]
 rfl
theorem chainA_end (l:List EdP):chainA l l.length=true:=by
 cases h:l.length with
 | zero=>rw[List.eq_nil_of_length_eq_zero h];rfl
 | succ n =>
  simp only[chainA];rw[List.getElem?_eq_getElem (show n<l.length by omega),List.drop_eq_nil_of_le zq4]
  rfl
def hmy.T6:Bool × List (List Nat × List Nat):=(true,[([],[]),([],[]),([0,1],[0,1]),([2],[2]),([3],[3]),([4],[4]),([5],[5]),([6,5],[6]),([7],[7]),([7],[7]),([8,9,7],[7,8,9]),([10,7],[7,10]),([11,7],[7,11]),([7],[7]),([7],[7]),([13,14,7],[7,13,14]),([15,7],[7,15]),([16,7],[7,16]),([12,17,7],[7,12,17]),([18,7],[7,18]),([19,7,7],[7,19]),([20,7],[7,20]),([7,21],[7,21])])
def hmy.B6:List Nat:=[0,0,3,7,15,31,63,127,255,255,1023,2047,4095,255,255,24831,57599,123135,262143,524287,1048575,2097151,4194303]
theorem hmy.tab6:rtab .any (opsOf Tryz.f50 6)=hmy.T6:=by kernel_rfl
theorem hmy.bits6:waitsOk hmy.T6.2 hmy.B6=true:=by kernel_rfl
theorem hmay_calls (A0:Option Addr) (c0:Nat) (l:List EdP) (w:World) (hr0:Kd.C kE w A0 l.length l) (hc0:l.length<=c0) (hl:l.length<=1024) (hrow:∀ e ∈ l,e.f0.length<=4398046511104) :
  Calls Tryz.prog 50 #[.slice A0 l.length c0] w fun e w'=>e = .returned (.bool (mayE l))/\Below w.heap.size w w':=by
 have HR:=Hd hr0;have HC:=Hd hc0;have HL:=Hd hl;have HRW:=Hd hrow;have HM:=Hd (show mayE l=chainA l 0 from mayE_chain l hl);clear hr0 hc0 hrow;go_enter Tryz.func50,Tryz.ntmps50;have b0:decide ((l.length:Int) > 4096)=false:=DEF zq4;clear hl;go_wp2;clear b0
 go_loopw [3] (fun v3 wr=>∃ (i:Nat),i<=l.length/\v3 = .int .i64 (i:Int)/\Aside0 (mayE l=chainA l i)/\Aside0 (∀ e ∈ l.take i,rowMay e.f0=true)/\Aside0 (Below w.heap.size w wr)) (fun v3 wr=>l.length - (intOf v3).toNat)
 case atStart=>exact⟨0,Nat.zero_le _,rfl,⟨HM.out⟩,⟨by simp⟩,⟨Below.refl _ _⟩⟩
 case round =>
  clear HM;obtain⟨i,hi,rfl,HEQ,HOK,HB⟩:=hrel;have hll:=HL.out
  by_cases c:i<l.length
  ·obtain⟨X,hX⟩:∃ X,l[i]=X:=⟨_,rfl⟩
   obtain⟨ad,Ax,cx,e1,x0,x1,x2,x3,x4⟩:=at_T41 (Kd.C_below HR.out HB.out) (i:Int) zq4 zq4;rw[Int.toNat_natCast,rdE l i c,hX] at x0 x1 x2;rw[rdE l i c,hX] at x3 x4;cases e1;obtain⟨P,hP⟩:∃ P,(0<i->l[i - 1]? = some P):=by
    by_cases h0:0<i
    ·exact⟨l[i - 1],fun _=>List.getElem?_eq_getElem zq4⟩
    ·exact⟨X,fun h=>absurd h h0⟩
   have HST:=Hd (show mayE l=(okE X && (decide (i=0) || stepB P X) && chainA l (i+1)) by
    rw[HEQ.out];cases i with
    | zero=>rw[chainA_0 l c,hX];simp
    | succ n =>
     have h:=hP zq4;rw[Nat.add_sub_cancel,List.getElem?_eq_getElem (show n<l.length by omega)] at h;injection h with h
     rw[chainA_1 l n c,hX,h];simp)
   have HTK:=Hd (show l.take (i+1)=l.take i ++ [X] by rw[List.take_add_one,List.getElem?_eq_getElem c,hX];rfl);obtain⟨km,hkm⟩:=(EvP.mayR X.f0).get;have MX:=Hd (fun (W:World) (h:Below wr.heap.size wr W)=>r06_May.calls km Ax cx X.f0 _ W (Kd.C_below x4 h) x3 hkm);have X0:=Hd (fun (W:World) (h:Below wr.heap.size wr W)=>pw_cell_below h x0);have X1:=Hd (fun (W:World) (h:Below wr.heap.size wr W)=>pw_cell_below h x1);have X2:=Hd (fun (W:World) (h:Below wr.heap.size wr W)=>pw_cell_below h x2);have XC:=Hd x4;have XL:=Hd x3;have HP:=Hd hP;have pI:(0<=(i:Int))=True:=eq_true zq4;have qI:((i:Int)<(l.length:Int))=True:=eq_true zq4;have hrx:X.f0.length<=4398046511104:=HRW.out X (by rw[<- hX];exact List.getElem_mem c);clear x0 x1 x2 x3 x4 hkm hX hP;cases hm:rowMay X.f0 with
   | false =>
    have HV:=Hd (show mayE l=false by rw[HST.out,show okE X=false by unfold okE;rw[hm];rfl];rfl);rw[hm] at MX;have x0':=fun p:BelowOf wr=>X0.out p.W p.h
    go_wp2;refine wp_region_quiet_below zq17 zq17 ?_
    repeat (go_big_quiet_step (exact below_calls (MX.out _ (BelowOf.h _))))
    refine wpQuiet_nil ?_;intro wq hw1;have HBQ:=Hd (show Below wr.heap.size wr wq by obtain⟨p,rfl⟩:=hw1;exact p.h);clear hw1 x0';go_wp2;go_ret;exact⟨by rw[HV.out];rfl,HB.out.trans (HBQ.out.mono HB.out.size)⟩
   | true =>
    rw[hm] at MX;have hj9:=may09_one ⟨X.f1,X.f2⟩;obtain⟨mj,hmj⟩:∃ b,mayJ [(⟨X.f1,X.f2⟩:Jp)]=b:=⟨_,rfl⟩
    rw[hmj] at hj9;have HOKE:=Hd (show okE X=mj by unfold okE;rw[hm, <- hmj];rfl);obtain⟨k9,hk9⟩:=hj9.get;have HK9:=Hd hk9;clear hk9 hmj;obtain⟨wA,hwA⟩:∃ x,x=wr:=⟨_,rfl⟩
    go_wp2;have HBB:=below_drew1 (Below.refl wr.heap.size wr);have b0:=X0.out _ HBB;have b1:=X1.out _ HBB;have b2:=X2.out _ HBB;refine start_ (n:=23) (S:=fun w'=>Below wr.heap.size wr w'/\w'.cell? (ad.add (i*3))=some (.slice Ax X.f0.length cx)/\w'.cell? ⟨(ad.add (i*3)).block,(ad.add (i*3)).off+1,none⟩=some (.int .i64 X.f1)/\w'.cell? ⟨(ad.add (i*3)).block,(ad.add (i*3)).off+2,none⟩=some (.int .i64 X.f2)) (ds:=[]) #[false,false,false,false,false,false,false,false,false,false,false,false,false,false,false,false,false,false,false,false,false,false,false] zq17 rfl rfl ⟨HBB,b0,b1,b2⟩ (fun hHeld=>?_);refine with_tabW hmy.tab6 hmy.bits6 (fun HT_ HW_=>?_);refine pZ 0 16 ?_;refine pZ 1 17 ?_;refine pZ 2 18 ?_;refine pZ 3 19 ?_;refine tZ4 4 20 ?_;refine oZ 5 21 (fun K hK=>?_);refine goes_ Tryz.func69 zq17 rfl #[.slice Ax X.f0.length cx] (by rfl) rfl rfl zq67 ?_
    with_reducible refine (MX.out _ hHeld.1).mono ?_
    rintro e w5 ⟨rfl,hb5⟩;refine⟨_,rfl,?_⟩;have hb6:=hHeld.1.trans (hb5.mono hHeld.1.size);refine hK.out _ _ ⟨hb6,X0.out _ hb6,X1.out _ hb6,X2.out _ hb6⟩ (fun hHeld=>?_);clear hK K;refine nZ 21 ?_;refine pZ 6 22 ?_;refine pZ 7 23 ?_;refine pZ 8 24 ?_;refine pZ 9 25 ?_;refine pZ 10 26 ?_;refine pZ 11 27 ?_;refine pZ 13 29 ?_;refine pZ 14 30 ?_;refine pZ 15 31 ?_;refine pZ 16 32 ?_;refine tZ4 12 28 ?_;refine tZ4 17 33 ?_;refine pZ 18 34 ?_;refine oZ 19 35 (fun K hK=>?_);refine Kd.R_lit_step kJp _ tJ ?hg (N:=35) ?hd (xs:=[(⟨X.f1,X.f2⟩:Jp)]) (inner:=[.int .i64 X.f1,.int .i64 X.f2]) (ok:=fun _=>True) (okp:=fun _=>True) ?hr ?hp (fun _ hk=>hk) trivial (Below.refl _ _) (Nat.le_refl _) zq30 ?_
    case hd=>rfl
    case hg=>rfl
    case hr=>first | (go_simp;done) | (go_simp;rfl)
    case hp=>exact Reps.c2 (k85_mkM _ _ _ ⟨X.f1,X.f2⟩) (Reps.none _ _)
    intro vl w3 hRl hbl hgl hnl;obtain⟨Al,cl,rfl⟩:=Kd.R_slice hRl;have HRL3:=Hd (Kd.R_reads' hRl);have hb7:=hHeld.1.trans (hbl.mono hHeld.1.size);clear hRl hgl hnl;refine hK.out _ _ ⟨hb7,X0.out _ hb7,X1.out _ hb7,X2.out _ hb7⟩ (fun hHeld=>?_);clear hK K;refine nZ 35 ?_;refine oZ 20 36 (fun K hK=>?_);refine goes_ Tryz.func79 zq17 rfl #[.slice Al ([⟨X.f1,X.f2⟩]:List Jp).length cl] (by rfl) rfl rfl zq67 ?_
    with_reducible refine (r09_May.calls k9 Al cl [⟨X.f1,X.f2⟩] _ _ (Kd.C_below HRL3.out.2.2 (Below.refl _ _)) HRL3.out.2.1 HK9.out).mono ?_
    rintro e w9 ⟨rfl,hb9⟩;refine⟨_,rfl,?_⟩;have hb8:=hHeld.1.trans (hb9.below.mono hHeld.1.size);have HBQ:=Hd hb8;refine hK.out _ _ ⟨hb8,X0.out _ hb8,X1.out _ hb8,X2.out _ hb8⟩ (fun hHeld=>?_);clear hK K;refine nZ 36 ?_;refine pZ 21 37 ?_;refine pZ 22 38 ?_;refine done_ (done_of HT_.out zq17) ?_;cases mj with
    | false =>
     have HV:=Hd (show mayE l=false by rw[HST.out,HOKE.out];rfl);go_wp2;go_ret;exact⟨by rw[HV.out];rfl,HB.out.trans (HBQ.out.mono HB.out.size)⟩
    | true =>
     rw[HOKE.out,Bool.true_and] at HST;have HOKN:=Hd (show ∀ e ∈ l.take (i+1),rowMay e.f0=true by
      intro e he;rw[HTK.out,List.mem_append] at he
      rcases he with he | he
      ·exact HOK.out e he
      ·rw[List.mem_singleton] at he;rw[he];exact hm)
     have HBN:=Hd (HB.out.trans (HBQ.out.mono HB.out.size));clear HOKE HK9 MX HTK
     by_cases h0:i=0
     ·subst h0
      have HEN:=Hd (show mayE l=chainA l (0+1) by rw[HST.out,DET rfl,Bool.true_or,Bool.true_and]);go_wp2;go_roundw
      case rel=>exact⟨0+1,by omega,by go_num,⟨HEN.out⟩,⟨HOKN.out⟩,⟨HBN.out⟩⟩
      case measure=>simp[intOf];omega
     ·have bz:((i:Int) == 0)=false:=BNM zq4
      have hPP:=HP.out zq4;rw[DEF h0,Bool.false_or] at HST;have hi1:i - 1<l.length:=by omega
      have hw1:wrap64 ((i:Int) - 1)=((i - 1:Nat):Int):=by unfold wrap64;omega
      have hPg:l[i - 1]=P:=by rw[List.getElem?_eq_getElem hi1] at hPP;exact OSI hPP
      obtain⟨bd,Ay,cy,e2,y0,y1,y2,y3,y4⟩:=at_T41 (Kd.C_below HR.out HBN.out) ((i - 1:Nat):Int) zq4 zq4;rw[Int.toNat_natCast,rdE l (i - 1) hi1,hPg] at y0 y1 y2;rw[rdE l (i - 1) hi1,hPg] at y3 y4;cases e2;obtain⟨kc,hkc⟩:=(ref06 P.f0 X.f0).get;obtain⟨cc,hcc⟩:∃ z,cmpR P.f0 X.f0=z:=⟨_,rfl⟩
      rw[hcc] at hkc;have HSB:=Hd (show stepB P X=(decide (cc<0) || (decide (cc=0) && decide (P.f1<X.f1))) by unfold stepB;rw[hcc]);have xC:=Kd.C_below XC.out HBQ.out;have xl:=XL.out;have CM:=Hd (fun (p:BelowOf w9)=>r06_Compare.calls kc Ay cy P.f0 Ax cx X.f0 _ p.W (Kd.C_below y4 p.h) y3 (Kd.C_below xC p.h) xl hkc);have x0':=fun p=>BelowOf.cell (X0.out _ HBQ.out) p
      have y0':=fun p=>BelowOf.cell y0 p
      have pK:(0<=((i - 1:Nat):Int))=True:=eq_true zq4;have qK:(((i - 1:Nat):Int)<(l.length:Int))=True:=eq_true zq4;have Y1:=Hd y1;clear y1 y2 y3 y4 hkc hcc xC xl hPg hPP HP;go_wp2;refine wp_region_quiet_below zq17 zq17 ?_
      repeat (go_big_quiet_step (exact below_calls (CM.out _)))
      refine wpQuiet_nil ?_;intro wq hw2;have HB2:=Hd (show Below w9.heap.size w9 wq by obtain⟨p,rfl⟩:=hw2;exact p.h);have HBM:=Hd (HBN.out.trans (HB2.out.mono HBN.out.size));have z1':=fun p=>BelowOf.cell (pw_cell_below HB2.out (X1.out _ HBQ.out)) p
      have z2':=fun p=>BelowOf.cell (pw_cell_below HB2.out Y1.out) p
      clear hw2 x0' y0' y0 CM
      by_cases h1:cc > 0
      ·have b1:decide (cc > 0)=true:=DET h1
       have HV:=Hd (show mayE l=false by rw[HST.out,HSB.out,DEF (show ¬ cc<0 by omega),DEF (show ¬ cc=0 by omega)];rfl);go_wp2;refine wp_region_quiet_below zq17 zq17 ?_
       repeat (go_big_quiet_step (fail))
       refine wpQuiet_nil ?_;intro wz hw3;have HBZ:=Hd (show Below w.heap.size w wz by obtain⟨p,rfl⟩:=hw3;exact HBM.out.trans (p.h.mono HBM.out.size));clear hw3 z1' z2';go_wp2;go_ret;exact⟨by rw[HV.out];rfl,HBZ.out⟩
      ·have b1:decide (cc > 0)=false:=DEF h1
       by_cases h2:cc=0
       ·have b2:(cc == 0)=true:=beq_iff_eq.mpr h2
        by_cases h3:P.f1 >= X.f1
        ·have b3:decide (P.f1 >= X.f1)=true:=DET h3
         have HV:=Hd (show mayE l=false by rw[HST.out,HSB.out,DEF (show ¬ cc<0 by omega),DEF (show ¬ P.f1<X.f1 by omega),Bool.and_false];rfl);go_wp2;refine wp_region_quiet_below zq17 zq17 ?_
         repeat (go_big_quiet_step (fail))
         refine wpQuiet_nil ?_;intro wz hw3;have HBZ:=Hd (show Below w.heap.size w wz by obtain⟨p,rfl⟩:=hw3;exact HBM.out.trans (p.h.mono HBM.out.size));clear hw3 z1' z2';go_wp2;go_ret;exact⟨by rw[HV.out];rfl,HBZ.out⟩
        ·have b3:decide (P.f1 >= X.f1)=false:=DEF h3
         have HEN:=Hd (show mayE l=chainA l (i+1) by rw[HST.out,HSB.out,DET h2,DET (show P.f1<X.f1 by omega),Bool.and_true,Bool.or_true,Bool.true_and]);go_wp2;refine wp_region_quiet_below zq17 zq17 ?_
         repeat (go_big_quiet_step (fail))
         refine wpQuiet_nil ?_;intro wz hw3;have HBZ:=Hd (show Below w.heap.size w wz by obtain⟨p,rfl⟩:=hw3;exact HBM.out.trans (p.h.mono HBM.out.size));clear hw3 z1' z2';go_wp2;go_roundw
         case rel=>exact⟨i+1,by omega,by go_num,⟨HEN.out⟩,⟨HOKN.out⟩,⟨HBZ.out⟩⟩
         case measure=>simp[intOf];omega
       ·have b2:(cc == 0)=false:=BNM h2
        have HEN:=Hd (show mayE l=chainA l (i+1) by rw[HST.out,HSB.out,DET (show cc<0 by omega),Bool.true_or,Bool.true_and]);go_wp2;refine wp_region_quiet_below zq17 zq17 ?_
        repeat (go_big_quiet_step (fail))
        refine wpQuiet_nil ?_;intro wz hw3;have HBZ:=Hd (show Below w.heap.size w wz by obtain⟨p,rfl⟩:=hw3;exact HBM.out.trans (p.h.mono HBM.out.size));clear hw3 z1' z2';go_wp2;go_roundw
        case rel=>exact⟨i+1,by omega,by go_num,⟨HEN.out⟩,⟨HOKN.out⟩,⟨HBZ.out⟩⟩
        case measure=>simp[intOf];omega
  ·obtain rfl:i=l.length:=by omega
   have HV:=Hd (show mayE l=true by rw[HEQ.out,chainA_end]);have HOKL:=Hd (show ∀ e ∈ l,rowMay e.f0=true by have:=HOK.out;rw[List.take_length] at this;exact this);have HBL:=Hd HB.out;clear HEQ HOK HB
   go_wp2_with (go_at_call 66;refine hold3 ?_)
   refine⟨?_⟩;refine (hrows_calls A0 c0 l w wr HR.out HBL.out zq4 HOKL.out).mono ?_;rintro e w1 ⟨v,rfl,hRr,hb1⟩;obtain⟨Ar,cr,rfl⟩:=Kd.R_slice hRr;have HRS:=Hd (Kd.R_reads' hRr).2.2;have HB1:=Hd (HBL.out.trans (hb1.mono HBL.out.size));have HRC:=Hd (kH_C HB1.out HRS.out);obtain⟨RS,hRS⟩:∃ z,rowsOf l=z:=⟨_,rfl⟩
   rw[hRS] at HRC ⊢;have hrl:RS.length<=1024:=by
    have:=insR_len l;rw[insR_eq,hRS] at this;omega
   clear hRr hb1 hRS HRS;go_wp2
   go_loopw [6] (fun v6 wr=>∃ (j:Nat),j<=RS.length/\v6 = .int .i64 (j:Int)/\Aside0 (Below w1.heap.size w1 wr)) (fun v6 wr=>RS.length - (intOf v6).toNat)
   case atStart=>exact⟨0,Nat.zero_le _,rfl,⟨Below.refl _ _⟩⟩
   case round =>
    obtain⟨j,hj,rfl,HBI⟩:=hrel
    by_cases cj:j<RS.length
    ·obtain⟨r,hr⟩:∃ r,RS[j]=r:=⟨_,rfl⟩
     obtain⟨a3,Ay,cy,e3,y0,y1,y2⟩:=at_L3 (Kd.C_below HRC.out HBI.out) (j:Int) zq4 zq4;rw[rdR RS j cj,hr] at y0 y1 y2;rw[Int.toNat_natCast] at y0;cases e3;obtain⟨kj,hkj⟩:=(jumps10 l r HRW.out zq4).get;have JC:=Hd (r10_Jumps.calls kj A0 c0 l Ay cy r (jumpsOf l r) wr (Kd.C_below HR.out (HB1.out.trans (HBI.out.mono HB1.out.size))) HC.out y2 y1 hkj);have bj:decide (((jumpsOf l r).length:Int) > 1024)=false:=DEF (by have:=jumpsOf_len l r;omega);have pJ:(0<=(j:Int))=True:=eq_true zq4;have qJ:((j:Int)<(RS.length:Int))=True:=eq_true zq4;clear y1 y2 hkj hr
     go_wp2_with (go_at_call 26;refine hold3 ?_)
     refine⟨?_⟩;refine JC.out.mono ?_;rintro e w2 ⟨vj,rfl,hRj,hb2⟩;obtain⟨Aj,cj2,rfl⟩:=Kd.R_slice hRj;have HBJ:=Hd (HBI.out.trans (hb2.mono HBI.out.size));clear hRj hb2 JC y0;go_wp2;go_roundw
     case rel=>exact⟨j+1,by omega,by go_num,⟨HBJ.out⟩⟩
     case measure=>simp[intOf];omega
    ·have pj:decide ((j:Int)<(RS.length:Int))=false:=DEF zq4
     go_wp2;go_ret;exact⟨by rw[HV.out];rfl,HB1.out.trans (HBI.out.mono HB1.out.size)⟩
end Go.Proofs.YtmkgecapkeojaaaGreat.Eg
end
section
namespace Go.Proofs.YtmkgecapkeojaaaGreat.Eg
open PDa
open RowKit YtmkgecapkeojaaaGreatW.PrintWords YtmkgecapkeojaaaGreatW.PrintLast YtmkgecapkeojaaaGreatW.PrintMore
open Go.Proofs.YtmkgecapkeojaaaGreat.EvP (okI)
def oneV (c n:Int) (t:ByteArray) (l:List S65) (k m:Int) (s:ByteArray):Int × Int × ByteArray × Int :=
 if c=1 then (1,n,⟨#[]⟩,0) else if c=2 then (2,0,t,0) else if c=3 then (if n >= (l.length:Int) then (0,0,⟨#[]⟩,3) else ((rd_T65 l n).f0,(rd_T65 l n).f1,(rd_T65 l n).f2,0))
 else if c=6 then (if k=2 then (1,(s.size:Int),⟨#[]⟩,0) else (0,0,⟨#[]⟩,12)) else if k=1 then (if c=5 then (1,tv (m == 0),⟨#[]⟩,0) else numR (okI (0 - m))) else (0,0,⟨#[]⟩,12)
abbrev oneCalls (c n:Int) (t:ByteArray) (A1:Option Addr) (c1:Nat) (l:List S65) (k m:Int) (s:ByteArray) (w:World) (r:Int × Int × ByteArray × Int):Prop :=
 Calls Tryz.prog 159 #[.agg #[.int .i64 c,.int .i64 n,.string t],.slice A1 l.length c1,.agg #[.int .i64 k,.int .i64 m,.string s]] w fun e w'=>OutV r e/\Below w.heap.size w w'
theorem ref_num (n:Int) (w:World):Calls Tryz.prog 178 #[.int .i64 n] w fun e w'=>e = .returned (.agg #[.int .i64 1,.int .i64 n,.string ⟨#[]⟩])/\Below w.heap.size w w' :=
 r05_Num.calls n 1 n ⟨#[]⟩ w rfl
theorem ref_neg (n:Int) (hn:EvP.R64 n) (w:World):Calls Tryz.prog 179 #[.int .i64 n] w fun e w'=>e = .returned (.tuple #[.int .i64 (okI (0 - n)).1,.int .i64 (okI (0 - n)).2])/\Below w.heap.size w w' :=
 (r01_Neg.calls n _ _ w (EvP.refNeg_eq n hn)).mono fun e w' z=>⟨z.1,z.2.below⟩
theorem one_num (A1:Option Addr) (c1:Nat) (l:List S65) (n k m:Int) (t s:ByteArray) (w:World):oneCalls 1 n t A1 c1 l k m s w (1,n,⟨#[]⟩,0):=by
 go_enter Tryz.func159,Tryz.ntmps159
 go_wp2_with (go_at_call 178;((with_reducible refine (ref_num _ _).mono ?_);rintro e w1 ⟨rfl,hb1⟩;obtain⟨bA,bB,bR⟩:=bx3 w _ _ _ _ _ _ _ _ _ _ _ _ _ rfl;obtain⟨pr0,pr1,pr2,qr0,qr1,qr2,_⟩:=bR.below hb1;replace hb1:=Hd ((below3 _ _ _).trans (hb1.mono zq33))))
 exact bodyPost_ret (v:=.tuple #[.agg #[.int .i64 1,.int .i64 n,.string ⟨#[]⟩],.int .i64 0]) (by simp[results,Tryz.results159,go_sem, *]) rfl ⟨rfl,below_set3 hb1.out _ zq4 _ _ _⟩
theorem one_str (A1:Option Addr) (c1:Nat) (l:List S65) (n k m:Int) (t s:ByteArray) (w:World):oneCalls 2 n t A1 c1 l k m s w (2,0,t,0):=by
 go_enter Tryz.func159,Tryz.ntmps159
 go_wp2_with (go_at_call 171;((with_reducible refine (ref_text _ _).mono ?_);rintro e w1 ⟨rfl,hb1⟩;obtain⟨bA,bB,bR⟩:=bx3 w _ _ _ _ _ _ _ _ _ _ _ _ _ rfl;obtain⟨pr0,pr1,pr2,qr0,qr1,qr2,_⟩:=bR.below hb1;replace hb1:=Hd ((below3 _ _ _).trans (hb1.mono zq33))))
 exact bodyPost_ret (v:=.tuple #[.agg #[.int .i64 2,.int .i64 0,.string t],.int .i64 0]) (by simp[results,Tryz.results159,go_sem, *]) rfl ⟨rfl,below_set3 hb1.out _ zq4 _ _ _⟩
theorem one_far (A1:Option Addr) (c1:Nat) (l:List S65) (n k m:Int) (t s:ByteArray) (h:decide (n >= (l.length:Int))=true) (w:World):oneCalls 3 n t A1 c1 l k m s w (0,0,⟨#[]⟩,3):=by
 go_enter Tryz.func159,Tryz.ntmps159;go_wp2;exact bodyPost_ret (v:=.tuple #[.agg #[.int .i64 0,.int .i64 0,.string ⟨#[]⟩],.int .i64 3]) (by simp[results,Tryz.results159,go_sem, *]) rfl ⟨rfl,below3 _ _ _⟩
theorem one_len (A1:Option Addr) (c1:Nat) (l:List S65) (n m:Int) (t s:ByteArray) (w:World):oneCalls 6 n t A1 c1 l 2 m s w (1,(s.size:Int),⟨#[]⟩,0):=by
 go_enter Tryz.func159,Tryz.ntmps159
 go_wp2_with (go_at_call 178;((with_reducible refine (ref_num _ _).mono ?_);rintro e w1 ⟨rfl,hb1⟩;obtain⟨bA,bB,bR⟩:=bx3 w _ _ _ _ _ _ _ _ _ _ _ _ _ rfl;obtain⟨pr0,pr1,pr2,qr0,qr1,qr2,_⟩:=bR.below hb1;replace hb1:=Hd ((below3 _ _ _).trans (hb1.mono zq33))))
 exact bodyPost_ret (v:=.tuple #[.agg #[.int .i64 1,.int .i64 (s.size:Int),.string ⟨#[]⟩],.int .i64 0]) (by simp[results,Tryz.results159,go_sem, *]) rfl ⟨rfl,below_set3 hb1.out _ zq4 _ _ _⟩
theorem one_lenk (A1:Option Addr) (c1:Nat) (l:List S65) (n k m:Int) (t s:ByteArray) (h:(k == 2)=false) (w:World):oneCalls 6 n t A1 c1 l k m s w (0,0,⟨#[]⟩,12):=by
 go_enter Tryz.func159,Tryz.ntmps159;go_wp2;exact bodyPost_ret (v:=.tuple #[.agg #[.int .i64 0,.int .i64 0,.string ⟨#[]⟩],.int .i64 12]) (by simp[results,Tryz.results159,go_sem, *]) rfl ⟨rfl,below3 _ _ _⟩
theorem one_kind (A1:Option Addr) (c1:Nat) (l:List S65) (c n k m:Int) (t s:ByteArray) (h1:(c == 1)=false) (h2:(c == 2)=false) (h3:(c == 3)=false) (h6:(c == 6)=false) (h:(k == 1)=false) (w:World):oneCalls c n t A1 c1 l k m s w (0,0,⟨#[]⟩,12):=by
 go_enter Tryz.func159,Tryz.ntmps159;go_wp2;exact bodyPost_ret (v:=.tuple #[.agg #[.int .i64 0,.int .i64 0,.string ⟨#[]⟩],.int .i64 12]) (by simp[results,Tryz.results159,go_sem, *]) rfl ⟨rfl,below3 _ _ _⟩
theorem one_not (A1:Option Addr) (c1:Nat) (l:List S65) (n m:Int) (t s:ByteArray) (w:World):oneCalls 5 n t A1 c1 l 1 m s w (1,tv (m == 0),⟨#[]⟩,0):=by
 go_enter Tryz.func159,Tryz.ntmps159
 go_wp2_with (go_at_call 170;((with_reducible refine (ref_truth _ _).mono ?_);rintro e w1 ⟨rfl,hb1⟩;obtain⟨bA,bB,bR⟩:=bx3 w _ _ _ _ _ _ _ _ _ _ _ _ _ rfl;obtain⟨pr0,pr1,pr2,qr0,qr1,qr2,_⟩:=bR.below hb1;replace hb1:=Hd ((below3 _ _ _).trans (hb1.mono zq33))))
 exact bodyPost_ret (v:=.tuple #[.agg #[.int .i64 1,.int .i64 (tv (m == 0)),.string ⟨#[]⟩],.int .i64 0]) (by simp[results,Tryz.results159,go_sem, *]) rfl ⟨rfl,below_set3 hb1.out _ zq4 _ _ _⟩
theorem one_neg (A1:Option Addr) (c1:Nat) (l:List S65) (c n m:Int) (t s:ByteArray) (hm:EvP.R64 m) (h1:(c == 1)=false) (h2:(c == 2)=false) (h3:(c == 3)=false) (h6:(c == 6)=false) (h5:(c == 5)=false) (w:World):oneCalls c n t A1 c1 l 1 m s w (numR (okI (0 - m))):=by
 go_enter Tryz.func159,Tryz.ntmps159
 go_wp2_with (first | (go_at_call 179;((with_reducible refine (ref_neg m hm _).mono ?_);rintro e w1 ⟨rfl,hb1⟩;obtain⟨bA,bB,bR⟩:=bx3 w _ _ _ _ _ _ _ _ _ _ _ _ _ rfl;obtain⟨pr0,pr1,pr2,qr0,qr1,qr2,_⟩:=bR.below hb1;have bR2:=Hd (bR.below hb1);replace hb1:=Hd ((below3 _ _ _).trans (hb1.mono zq33)))) | (go_at_call 172;((with_reducible refine (ref_number _ _ _).mono ?_);rintro e w2 ⟨rfl,hb2⟩;clear pr0 pr1 pr2 qr0 qr1 qr2;obtain⟨pr0,pr1,pr2,qr0,qr1,qr2,_⟩:=bR2.out.below hb2;replace hb2:=Hd (g_bel hb1.out hb2))))
 exact bodyPost_ret (v:=.tuple #[.agg #[.int .i64 (numR (okI (0 - m))).1,.int .i64 (numR (okI (0 - m))).2.1,.string (numR (okI (0 - m))).2.2.1],.int .i64 (numR (okI (0 - m))).2.2.2]) (by simp[results,Tryz.results159,go_sem, *]) rfl ⟨rfl,below_set3 hb2.out _ zq4 _ _ _⟩
theorem one_get (A1:Option Addr) (c1:Nat) (l:List S65) (n k m:Int) (t s:ByteArray) (w:World) (hr:Kd.C k65 w A1 l.length l) (h0:0<=n) (h1:n<(l.length:Int)):oneCalls 3 n t A1 c1 l k m s w ((rd_T65 l n).f0,(rd_T65 l n).f1,(rd_T65 l n).f2,0):=by
 obtain⟨ad,rfl,x0,x1,x2⟩:=at_T65 hr n h0 h1;generalize rd_T65 l n=X at *;have y0:=pw_cell_below (below3 (w:=w) (.cells #[.int .i64 3,.int .i64 n,.string t] 68) (.cells #[.int .i64 k,.int .i64 m,.string s] 65) (.cells #[.int .i64 0,.int .i64 0,.string ⟨#[]⟩] 65)) x0;have y1:=pw_cell_below (below3 (w:=w) (.cells #[.int .i64 3,.int .i64 n,.string t] 68) (.cells #[.int .i64 k,.int .i64 m,.string s] 65) (.cells #[.int .i64 0,.int .i64 0,.string ⟨#[]⟩] 65)) x1;have y2:=pw_cell_below (below3 (w:=w) (.cells #[.int .i64 3,.int .i64 n,.string t] 68) (.cells #[.int .i64 k,.int .i64 m,.string s] 65) (.cells #[.int .i64 0,.int .i64 0,.string ⟨#[]⟩] 65)) x2;have b0:decide (n >= (l.length:Int))=false:=DEF zq4;have p0:(0<=n)=True:=eq_true h0;have p1:(n<(l.length:Int))=True:=eq_true h1;clear h0 h1 hr;go_enter Tryz.func159,Tryz.ntmps159;go_wp2;exact bodyPost_ret (v:=.tuple #[.agg #[.int .i64 X.f0,.int .i64 X.f1,.string X.f2],.int .i64 0]) (by simp[results,Tryz.results159,go_sem, *]) rfl ⟨rfl,below3 _ _ _⟩
theorem hone_calls (A1:Option Addr) (c1:Nat) (l:List S65) (c n k m:Int) (t s:ByteArray) (w:World) (hr:Kd.C k65 w A1 l.length l) (hn:c=3->0<=n) (hm:EvP.R64 m):oneCalls c n t A1 c1 l k m s w (oneV c n t l k m s):=by
 have B:=fun {a b:Int} (h:¬ a=b)=>(BNM h:(a == b)=false)
 unfold oneV
 by_cases h1:c=1
 ·subst h1;exact one_num A1 c1 l n k m t s w
 rw[if_neg h1]
 by_cases h2:c=2
 ·subst h2;exact one_str A1 c1 l n k m t s w
 rw[if_neg h2]
 by_cases h3:c=3
 ·subst h3
  rw[if_pos rfl]
  by_cases h:n >= (l.length:Int)
  ·rw[if_pos h];exact one_far A1 c1 l n k m t s (DET h) w
  ·rw[if_neg h];exact one_get A1 c1 l n k m t s w hr (hn rfl) zq4
 rw[if_neg h3]
 by_cases h6:c=6
 ·subst h6
  rw[if_pos rfl]
  by_cases h:k=2
  ·subst h;exact one_len A1 c1 l n m t s w
  ·rw[if_neg h];exact one_lenk A1 c1 l n k m t s (B h) w
 rw[if_neg h6]
 by_cases hk:k=1
 ·subst hk
  rw[if_pos rfl]
  by_cases h5:c=5
  ·subst h5;exact one_not A1 c1 l n m t s w
  ·rw[if_neg h5];exact one_neg A1 c1 l c n m t s hm (B h1) (B h2) (B h3) (B h6) (B h5) w
 ·rw[if_neg hk];exact one_kind A1 c1 l c n k m t s (B h1) (B h2) (B h3) (B h6) (B hk) w
end Go.Proofs.YtmkgecapkeojaaaGreat.Eg
end
section
namespace Go.Proofs.YtmkgecapkeojaaaGreat.Eg
open PDa
open RowKit YtmkgecapkeojaaaGreatW.PrintWords YtmkgecapkeojaaaGreatW.PrintLast YtmkgecapkeojaaaGreatW.PrintMore
open Rw
open Go.Proofs.YtmkgecapkeojaaaGreat.EvP (T takes takes_R tail_C)
abbrev Op18:=S68
abbrev kOp:=k68
abbrev tO:Nat:=68
abbrev tX:Nat:=24
abbrev tXs:Nat:=32
def kidsT:T->List T
 | .l _=>[]
 | .u _ t=>[t]
 | .b _ t s=>[t,s]
def flT:List T->List Op18
 | []=>[]
 | t :: ts=>t.fl ++ flT ts
theorem flT_snoc (s:T):∀ ts:List T,flT (ts ++ [s])=flT ts ++ s.fl
 | []=>by simp[flT]
 | t :: ts=>by rw[List.cons_append,flT,flT,flT_snoc s ts,List.append_assoc]
theorem kids_fl (t:T) (ht:t.ok):t.fl=flT (kidsT t) ++ [t.top]/\t.kids=(kidsT t).map T.fl/\(takes t.top.f0=((kidsT t).length:Int))/\(kidsT t).length<=2 /\ ∀ s ∈ kidsT t,s.ok:=by
 cases t with
 | l o=>exact⟨by simp[T.fl,kidsT,flT,T.top],rfl,by rw[T.top,ht.2];rfl,by simp[kidsT],by simp[kidsT]⟩
 | u o t=>exact⟨by simp[T.fl,kidsT,flT,T.top],rfl,by rw[T.top,ht.2.1];rfl,by simp[kidsT],by simp[kidsT];exact ht.2.2⟩
 | b o t s=>exact⟨by simp[T.fl,kidsT,flT,T.top],rfl,by rw[T.top,ht.2.1];rfl,by simp[kidsT],by simp[kidsT];exact ht.2.2⟩
theorem hparts_calls (t:T) (ht:t.ok) (hl:t.fl.length<=64) (A0:Option Addr) (c0:Nat) (w:World) (hx:Kd.C kOp w A0 t.fl.length t.fl) (hc0:t.fl.length<=c0) :
  Calls Tryz.prog 157 #[.slice A0 t.fl.length c0] w fun e w'=>∃ A c,e = .returned (.slice A t.kids.length c)/\Kd.C (Kd.slice tO kOp) w' A t.kids.length t.kids/\Below w.heap.size w w':=by
 obtain⟨hfl,hkd,htk,hk2,hok⟩:=kids_fl t ht;obtain⟨K0,hK0⟩:∃ z,kidsT t=z:=⟨_,rfl⟩
 obtain⟨o,ho⟩:∃ z,t.top=z:=⟨_,rfl⟩
 rw[hK0,ho] at hfl;rw[hK0,ho] at htk;rw[hK0] at hkd hk2 hok;obtain⟨x,hxe⟩:∃ z,t.fl=z:=⟨_,rfl⟩
 rw[hkd];rw[hxe] at hfl hx hc0 hl ⊢;have huX:=Tryz.underlying24;have huXs:=Tryz.underlying32;obtain⟨i0,hi0,_,hsz0,_⟩:=info_parts info68;have hxl:x.length=(flT K0).length+1:=by rw[hfl];simp
 obtain⟨ad,e1,x0,_,_⟩:=at_T68 hx (((flT K0).length:Nat):Int) zq4 zq4;have hro:rd_T68 x (((flT K0).length:Nat):Int)=o:=by
  unfold rd_T68;rw[Int.toNat_natCast,hfl,List.getD_eq_getElem?_getD];simp
 rw[Int.toNat_natCast,hro] at x0;cases e1;obtain⟨m,hm⟩:∃ z,(flT K0).length=z:=⟨_,rfl⟩
 rw[hm] at x0 hxl;have hw1:wrap64 ((x.length:Int) - 1)=(m:Int):=by unfold wrap64;omega
 have pK:(0<=(m:Int))=True:=eq_true zq4;have qK:((m:Int)<(x.length:Int))=True:=eq_true zq4;have hcut:=cut_to (P:=Tryz.prog) tX tO .i64 huX hi0 (some ad) x.length c0 (m:Int) zq4 zq4 hc0;simp only[Int.toNat_natCast] at hcut;obtain⟨kt,hkt⟩:=(takes_R o.f0).get;rw[htk] at hkt;have TC:=Hd (fun W=>r17_Takes.calls kt o.f0 (K0.length:Int) W hkt);have X0:=Hd x0;have HX:=Hd hx;have HM:=Hd (show Kd.C kOp w (some ad) m (flT K0) by
  have h:=Kd.C_take (m:=m) hx zq4;rw[show x.take m=flT K0 by rw[hfl, <- hm,List.take_left'];rfl,hm] at h;exact h)
 have HXL:=Hd hxl;have HL:=Hd hl;have HOK:=Hd hok;have HK2:=Hd hk2;have HFM:=Hd hm;have HC0:=Hd hc0;clear x0 hx hxl hl hok hk2 hm hfl hkd htk hkt hxe hK0 ho hro hc0 ht;go_enter Tryz.func157,Tryz.ntmps157
 go_wp2_with (first | ((with_reducible refine gate_dst (N:=7) rfl ?_);refine Kd.R_lit (kHd tO kOp w) _ tX ?hg (N:=7) ?hd (xs:=([]:List (List Op18))) (inner:=[]) (ok:=fun _=>True) (okp:=fun _=>True) ?hr ?hp (fun _ hk=>hk) trivial (Below.refl _ _) (Nat.le_refl _) zq30 ?_;(case hd=>rfl);(case hg=>rfl);(case hr=>first | (go_simp;done) | (go_simp;rfl));(case hp=>exact (Reps.none _ _));intro v7 w1 ho1 hb1 hg_ hnew_;have HO1:=Hd ho1;have HB1:=Hd hb1;clear hg_ hnew_ hb1 ho1))
 clear hcut
 go_loopw [3,4,5] (fun v3 v4 v5 wr=>∃ (ks:List T) (outs:List (List Op18)) (A3:Option Addr) (c3:Nat) (A4:Option Addr) (c4:Nat),v5 = .int .i64 ((K0.length - ks.length:Nat):Int)/\v3 = .slice A3 outs.length c3/\v4 = .slice A4 (flT ks).length c4/\ks.length<=K0.length /\
  Aside0 ((kHd tO kOp wr).R tX wr w.heap.size (fun _=>True) (.slice A3 outs.length c3) outs)/\Aside0 (Kd.C kOp w A4 (flT ks).length (flT ks))/\Aside0 ((flT ks).length<=c4)/\Aside0 ((flT ks).length<=64)/\Aside0 (Below w.heap.size w wr)/\Aside0 (K0.map T.fl=ks.map T.fl ++ outs)/\Aside0 (∀ s ∈ ks,s.ok)) (fun v3 v4 v5 wr=>K0.length - (intOf v5).toNat)
 case atStart =>
  obtain⟨A3,c3,rfl⟩:=Kd.R_slice HO1.out;have h1:=HXL.out;have h2:=HL.out;have h3:=HC0.out;have h4:=HFM.out;exact⟨K0,[],A3,c3,_,_,by rw[Nat.sub_self];rfl,rfl,by rw[HFM.out],Nat.le_refl _,⟨kHd_up HB1.out HO1.out⟩,⟨by rw[HFM.out];exact HM.out⟩,⟨by omega⟩,⟨by omega⟩,⟨HB1.out⟩,⟨by simp⟩,⟨HOK.out⟩⟩
 case round =>
  clear HO1 HB1 HM HOK;obtain⟨ks,outs,A3,c3,A4,c4,rfl,rfl,rfl,hks,HO,HR,HC4,HN4,HB,HEQ,HKO⟩:=hrel;have x0:=pw_cell_below HB.out X0.out;obtain⟨rest,hrest⟩:∃ z,flT ks=z:=⟨_,rfl⟩
  obtain⟨j,hj⟩:∃ z,K0.length - ks.length=z:=⟨_,rfl⟩
  rw[hrest] at HR HC4 HN4 ⊢;rw[hj];have HJ:=Hd hj;have HRE:=Hd hrest;clear hj hrest
  rcases List.eq_nil_or_concat ks with hk | ⟨ks',s,hk⟩
  ·have bj:decide (j<K0.length)=false:=DEF (by have:=HJ.out;rw[hk] at this;simp at this;omega)
   have HE:=Hd (show outs=K0.map T.fl by rw[HEQ.out,hk];rfl);clear hk HEQ
   go_wp2_with (go_at_call 130;refine hold3 ?_)
   refine⟨?_⟩;refine (TC.out _).mono ?_;rintro e wt ⟨rfl,hbt⟩;have HBt:=Hd hbt.below;clear hbt;go_wp2;go_ret;rw[<- HE.out];exact⟨A3,c3,rfl,kHd_C HBt.out (Kd.R_reads' (Kd.R_below HO.out HBt.out)).2.2,HB.out.trans (HBt.out.mono HB.out.size)⟩
  ·rw[List.concat_eq_append] at hk
   have hrp:rest=flT ks' ++ s.fl:=by rw[<- HRE.out,hk,flT_snoc]
   have hso:s.ok:=HKO.out s (by rw[hk];simp);have hkl:ks.length=ks'.length+1:=by rw[hk];simp
   have bj:decide (j<K0.length)=true:=DET (by have:=HJ.out;omega);obtain⟨p,hp⟩:∃ z,flT ks'=z:=⟨_,rfl⟩
   rw[hp] at hrp;have hrl:rest.length=p.length+s.fl.length:=by rw[hrp,List.length_append]
   have hn4:=HN4.out;have hc4:=HC4.out;obtain⟨kl,hkl2⟩:=(tail_C s hso p (by rw[<- hrp];exact hn4)).get;rw[<- hrp] at hkl2;have LC:=Hd (fun W h=>r17_Tail.calls kl A4 c4 rest (s.fl.length:Int) W h hc4 hkl2);have hw2:wrap64 ((rest.length:Int) - (s.fl.length:Int))=(p.length:Int):=by unfold wrap64;omega
   obtain⟨i0,hi0,_,hsz0,_⟩:=info_parts info68;have hct:=cut_to (P:=Tryz.prog) tX tO .i64 huX hi0 A4 rest.length c4 (p.length:Int) zq4 zq4 hc4;have hcf:=cut_from (P:=Tryz.prog) tX tO .i64 huX hi0 3 hsz0 A4 rest.length c4 (p.length:Int) zq4 zq4;simp only[Int.toNat_natCast] at hct hcf;rw[show rest.length - p.length=s.fl.length by omega] at hcf;have HRT:=Hd (show Kd.C kOp w A4 p.length p by
    have h:=Kd.C_take (m:=p.length) HR.out zq4;rw[hrp,List.take_left'] at h <;> first | exact h | rfl)
   have HRD:=Hd (show Kd.C kOp w (if c4=p.length then A4 else A4.map (·.add (p.length*3))) s.fl.length s.fl by
    have h:=Kd.C_drop (m:=p.length) HR.out zq4 hc4;rw[hrp,List.drop_left'] at h <;> first | exact h | rfl)
   obtain⟨AF,hAF⟩:∃ z,(if c4=p.length then A4 else A4.map (·.add (p.length*3)))=z:=⟨_,rfl⟩
   rw[hAF] at hcf HRD;obtain⟨sf,hsf⟩:∃ z,s.fl=z:=⟨_,rfl⟩
   rw[hsf] at hcf HRD LC hw2 hrl;have HSF:=Hd hsf;have HKS:=Hd hk;have HPP:=Hd hp;have HKL:=Hd hkl;have HRL:=Hd hrl;clear hk hp hkl hrp hAF hkl2 hsf hi0 hsz0 hso hrl hn4 hc4
   go_wp2_with (go_at_call 130;refine hold3 ?_)
   refine⟨?_⟩;refine (TC.out _).mono ?_;rintro e wt ⟨rfl,hbt⟩;have HBt:=Hd hbt.below;clear hbt
   go_wp2_with (go_at_call 88;refine hold3 ?_)
   refine⟨?_⟩;refine (LC.out _ (Kd.C_below HR.out (HB.out.trans (HBt.out.mono HB.out.size)))).mono ?_;rintro e wu ⟨rfl,hbu⟩;have HBU:=Hd (show Below wr.heap.size wr wu from HBt.out.trans (hbu.mono HBt.out.size));have HRX:=Hd (fun (W:World) (h:Below wu.heap.size wu W)=>Kd.C_below HRD.out ((HB.out.trans (HBU.out.mono HB.out.size)).trans (h.mono (Nat.le_trans HB.out.size HBU.out.size))));have HSL:=Hd (show sf.length<=64 by have:=HRL.out;have:=HN4.out;omega);have HOL:=Hd (show outs.length<=64 by have h:=congrArg List.length HEQ.out;rw[List.length_map,List.length_append] at h;have:=HK2.out;omega);clear hbu HBt LC x0
   go_wp2_with (first
    | ((with_reducible refine gate_dst (N:=27) rfl ?_);refine Kd.R_lit kOp _ tO ?hg (N:=27) ?hd (xs:=([]:List Op18)) (inner:=[]) (ok:=fun _=>True) (okp:=fun _=>True) ?hr ?hp (fun _ hk=>hk) trivial (Below.refl _ _) (Nat.le_refl _) zq30 ?_;(case hd=>rfl);(case hg=>rfl);(case hr=>first | (go_simp;done) | (go_simp;rfl));(case hp=>exact (Reps.none _ _));intro v27 wa ho hb hg_ hnew_;have HOA:=Hd ho;have HBA:=Hd hb;clear ho hb hg_ hnew_)
    | ((with_reducible refine gate_dst (N:=34) rfl ?_);refine Kd.R_append_rows kOp (w0:=wu) wu.heap.size rfl (.tmp 27) (.tmp 33) tX tO (.agg #[.int .i64 0,.int .i64 0,.string ⟨#[]⟩]) 32 rfl huX info68 rfl zq34 zq4 v27 [] sf _ _ _ (fun _=>True) (fun _=>False) rfl rfl HOA.out (HRX.out _ HBA.out) (fun _ _ h=>h) (fun _ h=>h.elim) (fun _ _=>trivial) HBA.out HBA.out.size ?aL ?_;(case aL=>have:=HSL.out;rw[List.length_nil];omega);intro v34 wb ho hb hg_ hnew_;rw[List.nil_append] at ho;obtain⟨A34,c34,rfl⟩:=Kd.R_slice ho;have HOB:=Hd (Kd.R_reads' ho);have HBB:=Hd hb;clear ho hb hg_ hnew_)
    | ((with_reducible refine gate_dst (N:=35) rfl ?_);refine Kd.R_lit (kHd tO kOp wb) (w0:=wb) wb.heap.size tX ?hg (N:=35) ?hd (xs:=[sf]) (inner:=[.slice A34 sf.length c34]) (ok:=fun _=>True) (okp:=fun _=>True) ?hr ?hp (fun _ hk=>hk) trivial (Below.refl _ _) (Nat.le_refl _) zq30 ?_;(case hd=>rfl);(case hg=>rfl);(case hr=>first | (go_simp;done) | (go_simp;rfl));(case hp=>exact (Reps.one ⟨A34,c34,rfl,HOB.out.2.1,HOB.out.2.2⟩ (Reps.none _ _)));intro v35 wc ho hb hg_ hnew_;have HOC:=Hd ho;have HBC:=Hd hb;clear ho hb hg_ hnew_)
    | ((with_reducible refine gate_dst (N:=37) rfl ?_);refine Kd.R_append_rows (kHd tO kOp wb) (w0:=wb) wb.heap.size rfl (.tmp 35) (.tmp 36) tXs tX (.slice none 0 0) 24 rfl huXs info24 rfl Nat.one_pos zq4 v35 [sf] outs _ _ _ (fun _=>True) (fun _=>False) rfl rfl HOC.out ?aR (fun _ _ h=>h) (fun _ h=>h.elim) (fun _ _=>trivial) HBC.out HBC.out.size ?aL ?_;(case aR=>exact (Kd.R_reads' (Kd.R_below (kHd_up (HBU.out.trans (HBB.out.mono HBU.out.size)) HO.out) ((HBU.out.trans (HBB.out.mono HBU.out.size)).trans (HBC.out.mono (Nat.le_trans HBU.out.size HBB.out.size))))).2.2);(case aL=>have:=HOL.out;rw[List.length_singleton];omega);intro v37 wd ho hb hg_ hnew_;have HOD:=Hd ho;have HBD:=Hd hb;clear ho hb hg_ hnew_))
   obtain⟨A9,c9,rfl⟩:=Kd.R_slice HOD.out;have hw3:wrap64 ((j:Int)+1)=((K0.length - ks'.length:Nat):Int):=by have h1:=HJ.out;have h2:=HKL.out;have h3:=HK2.out;unfold wrap64;omega
   have HBX:=Hd (HB.out.trans ((HBU.out.trans ((HBB.out.trans (HBD.out.mono HBB.out.size)).mono HBU.out.size)).mono HB.out.size));have HSZ:=Hd (Nat.le_trans HB.out.size (Nat.le_trans HBU.out.size HBB.out.size));go_roundw
   case rel=>exact⟨.slice A9 ([sf] ++ outs).length c9,.slice A4 p.length c4,.int .i64 (wrap64 ((j:Int)+1)),⟨ks',by rw[hw3],[sf] ++ outs,A9,c9,rfl,A4,c4,by rw[HPP.out],by have:=HKL.out;omega,⟨Kd.R_lower (kHd_up HBD.out HOD.out) HSZ.out⟩,⟨by rw[HPP.out];exact HRT.out⟩,⟨by rw[HPP.out];have:=HRL.out;have:=HC4.out;omega⟩,⟨by rw[HPP.out];have:=HRL.out;have:=HN4.out;omega⟩,⟨HBX.out⟩,⟨by rw[HEQ.out,HKS.out,List.map_append,List.append_assoc, <- HSF.out];rfl⟩,⟨fun z hz=>HKO.out z (by rw[HKS.out];simp[hz])⟩⟩,rfl,rfl,rfl⟩
   case measure=>rw[hw3];simp[intOf];have h1:=HJ.out;have h2:=HKL.out;omega
end Go.Proofs.YtmkgecapkeojaaaGreat.Eg
end
section
namespace Go.Proofs.YtmkgecapkeojaaaGreat.Eg
open PDa
open RowKit YtmkgecapkeojaaaGreatW.PrintWords YtmkgecapkeojaaaGreatW.PrintLast YtmkgecapkeojaaaGreatW.PrintMore
open Rw
open Go.Proofs.YtmkgecapkeojaaaGreat.EvP (outV evL evU evB VOk ROk okW takes T good_ev R64)
abbrev Out4:=Int × Int × ByteArray × Int
theorem oneV_L (row:List Vl) (hr:ROk row) (o:Op18) (hw:okW o=true) (ht:takes o.f0=0):oneV o.f0 o.f1 o.f2 row 0 0 ⟨#[]⟩=outV (evL row o):=by
 unfold oneV
 rcases EvP.takes_0 ht with h | h | h
 ·rw[if_pos h,show evL row o = .ok (.num o.f1) by unfold evL;rw[if_pos h]];rfl
 ·rw[if_neg zq4,if_pos h,show evL row o = .ok (.txt o.f2) by unfold evL;rw[if_neg zq4,if_pos h]];rfl
 ·have hg:=EvP.okW_get hw h
  rw[if_neg zq4,if_neg zq4,if_pos h]
  by_cases hn:o.f1<(row.length:Int)
  ·have hm:=EvP.rd_mem hg.1 hn
   have hv:=(EvP.getTh_ok ((EvP.rowMay_at hr.may).2 _ hm) (hr.r64 _ hm)).2;rw[if_neg zq4,show evL row o = .ok (getTh (rd_T65 row o.f1)) by unfold evL;rw[if_neg zq4,if_neg zq4,if_pos hn]];generalize rd_T65 row o.f1=v at *
   show (v.f0,v.f1,v.f2,(0:Int))=((thVal3 (getTh v)).1,(thVal3 (getTh v)).2.1,(thVal3 (getTh v)).2.2,0)
   rw[hv]
  ·rw[if_pos zq4,show evL row o = .error 3 by unfold evL;rw[if_neg zq4,if_neg zq4,if_neg hn]];rfl
theorem oneV_U (row:List Vl) (o:Op18) (ht:takes o.f0=1) (x:Th):oneV o.f0 o.f1 o.f2 row (thVal3 x).1 (thVal3 x).2.1 (thVal3 x).2.2=outV (evU o.f0 x):=by
 unfold oneV
 rcases EvP.takes_1 ht with h | h | h <;> rw[if_neg zq4,if_neg zq4,if_neg zq4,h]
 ·cases x with
  | num a=>exact EvP.outV_num _
  | txt a=>rfl
 ·cases x <;> rfl
 ·cases x <;> rfl
def thV (x:Th):Vl:=⟨(thVal3 x).1,(thVal3 x).2.1,(thVal3 x).2.2⟩
theorem bx1 (w:World) (x0 x1 x2:Value) (t:TypeId):Bx w.heap.size (w.alloc (.cells #[x0,x1,x2] t)) x0 x1 x2:=by
 refine⟨?_,?_,?_,?_,?_,?_,?_⟩
 all_goals first | (simp[go_sem];done) | (simp;omega)
def goV (fin:List Th->Out4):List (Except Int Th)->List Th->Out4
 | [],vs=>fin vs
 | .error e :: _,_=>outV (.error e)
 | .ok v :: rs,vs=>goV fin rs (vs ++ [v])
def goS (fin:List Th->Out4) (rs:List (Except Int Th)) (vs:List Th):Except Int Th->Out4
 | .error e=>outV (.error e)
 | .ok v=>goV fin rs (vs ++ [v])
theorem goV_cons (fin:List Th->Out4) (rs:List (Except Int Th)) (vs:List Th) (r:Except Int Th):goV fin (r :: rs) vs=goS fin rs vs r:=by cases r <;> rfl
abbrev OfIs (A1:Option Addr) (c1:Nat) (row:List Vl) (W:World) (x:List Op18) (r:Out4):Prop :=
 ∀ (A0:Option Addr) (c0:Nat) (w:World),Kd.C kOp w A0 x.length x->x.length<=c0->Below W.heap.size W w ->
  Calls Tryz.prog 131 #[.slice A0 x.length c0,.slice A1 row.length c1] w fun e w'=>OutV r e/\Below w.heap.size w w'
abbrev TwoIs (c:Int) (a b:Th) (r:Out4):Prop := ∀ w:World,Calls Tryz.prog 158 #[.int .i64 c,.agg #[.int .i64 (thV a).f0,.int .i64 (thV a).f1,.string (thV a).f2],.agg #[.int .i64 (thV b).f0,.int .i64 (thV b).f1,.string (thV b).f2]] w fun e w'=>OutV r e/\Below w.heap.size w w'
def hof.T12:Bool × List (List Nat × List Nat):=(true,[([],[]),([0],[0]),([],[]),([2],[2]),([3],[3]),([],[]),([5],[5]),([6],[6]),([1,4,7],[1,4,7]),([8],[8]),([8],[8]),([9,8,0,1,2,3,4,5,6,7,8,9,10],[9]),([10,11,0,1,2,3,4,5,6,7,8,9,10,11],[10])])
def hof.B12:List Nat:=[0,1,0,4,12,0,32,96,255,511,511,2047,4095]
theorem hof.tab12:rtab .any (opsOf Tryz.f131 12)=hof.T12:=by kernel_rfl
theorem hof.bits12:waitsOk hof.T12.2 hof.B12=true:=by kernel_rfl
theorem of_walk (A1:Option Addr) (c1:Nat) (row:List Vl) (W0:World) (hrow:Kd.C kV W0 A1 row.length row) (hc1:row.length<=c1) (q:List Op18) (o:Op18) (ps:List (List Op18)) (rs:List (Except Int Th)) (fin:List Th->Out4)
  (hl:(q ++ [o]).length<=64) (hps:ps.length<=2) (hrs:rs.length=ps.length)
  (PC:∀ (A0:Option Addr) (c0:Nat) (w:World),Kd.C kOp w A0 (q ++ [o]).length (q ++ [o])->(q ++ [o]).length<=c0->Calls Tryz.prog 157 #[.slice A0 (q ++ [o]).length c0] w fun e w'=>∃ A c,e = .returned (.slice A ps.length c)/\Kd.C (Kd.slice 68 kOp) w' A ps.length ps/\Below w.heap.size w w')
  (IH:∀ (i:Nat) (p:List Op18) (r:Except Int Th),ps[i]? = some p->rs[i]? = some r->OfIs A1 c1 row W0 p (outV r)/\EvP.Good r)
  (F2:∀ a b,VOk a->VOk b->ps.length=2->TwoIs o.f0 a b (fin [a,b])) (F1:∀ a,VOk a->ps.length=1 -> ∀ w,Below W0.heap.size W0 w->oneCalls o.f0 o.f1 o.f2 A1 c1 row (thV a).f0 (thV a).f1 (thV a).f2 w (fin [a])) (F0:ps.length=0 -> ∀ w,Below W0.heap.size W0 w->oneCalls o.f0 o.f1 o.f2 A1 c1 row 0 0 ⟨#[]⟩ w (fin [])) :
  OfIs A1 c1 row W0 (q ++ [o]) (goV fin rs []):=by
 intro A0 c0 w hx hc0 hW;have huV:=Tryz.underlying38;obtain⟨x,hxq⟩:∃ x,q ++ [o]=x:=⟨_,rfl⟩
 rw[hxq] at hx hc0 PC hl ⊢;have hxl:x.length=q.length+1:=by rw[<- hxq];simp
 have hxo:x[q.length]? = some o:=by rw[<- hxq];simp
 have HX:=Hd hx;have HRW:=Hd hrow;have HC1:=Hd hc1;have HW:=Hd hW;have PX:=Hd (fun w1 h=>PC A0 c0 w1 h hc0);have HIH:=Hd IH;have HRS:=Hd hrs;have H2:=Hd F2;have H1:=Hd F1;have H0:=Hd F0;have HXO:=Hd hxo;have HXL:=Hd hxl;have HL:=Hd hl;clear hx hrow hc1 hW PC IH hrs F2 F1 F0 hxq hxo hxl hl;go_enter Tryz.func131,Tryz.ntmps131
 go_wp2_with (go_at_call 157;refine hold3 ?_)
 refine⟨?_⟩;obtain⟨wA,hwA⟩:∃ x,x=w.alloc (.cells #[.int .i64 0,.int .i64 0,.string ⟨#[]⟩] 65):=⟨_,rfl⟩
 have HBA:=Hd (show Below w.heap.size w wA by rw[hwA];exact below_alloc (Below.refl _ _) _);have BA:=Hd (show Bx w.heap.size wA (.int .i64 0) (.int .i64 0) (.string ⟨#[]⟩) by rw[hwA];exact bx1 _ _ _ _ _);rw[<- hwA];clear hwA;refine (PX.out wA (Kd.C_below HX.out HBA.out)).mono ?_;rintro e w1 ⟨Ap,cp,rfl,hps1,hb1⟩;have HPS:=Hd hps1;have BR:=Hd (BA.out.below hb1);have HB1:=Hd (HBA.out.trans (hb1.mono HBA.out.size));clear hps1 hb1 BA HBA PX
 go_wp2_with (first | ((with_reducible refine gate_dst (N:=15) rfl ?_);refine Kd.R_lit kV _ tV ?hg (N:=15) ?hd (xs:=([]:List Vl)) (inner:=[]) (ok:=fun _=>True) (okp:=fun _=>True) ?hr ?hp (fun _ hk=>hk) trivial (Below.refl _ _) (Nat.le_refl _) zq30 ?_;(case hd=>rfl);(case hg=>rfl);(case hr=>first | (go_simp;done) | (go_simp;rfl));(case hp=>exact (Reps.none _ _));intro v7 w2 ho2 hb2 hg_ hnew_;have HO2:=Hd ho2;have HB2:=Hd hb2;clear hg_ hnew_ hb2 ho2))
 go_loopw [7,8] (fun v7 v8 wr=>∃ (i:Nat) (vs:List Th) (A7:Option Addr) (c7:Nat),i<=ps.length/\v8 = .int .i64 (i:Int)/\v7 = .slice A7 vs.length c7/\Aside0 (Kd.R kV tV wr w1.heap.size (fun _=>True) (.slice A7 vs.length c7) (vs.map thV))/\Aside0 (Below w1.heap.size w1 wr)/\Aside0 (vs.length=i)/\Aside0 (∀ v ∈ vs,VOk v)/\Aside0 (goV fin rs []=goV fin (rs.drop i) vs)) (fun v7 v8 wr=>ps.length - (intOf v8).toNat)
 case atStart =>
  obtain⟨A7,c7,rfl⟩:=Kd.R_slice HO2.out;exact⟨0,[],A7,c7,Nat.zero_le _,rfl,rfl,⟨HO2.out⟩,⟨HB2.out⟩,⟨rfl⟩,⟨by simp⟩,⟨by rw[List.drop_zero]⟩⟩
 case round =>
  clear HO2 HB2;obtain⟨i,vs,A7,c7,hi,rfl,rfl,HO,HB,HN,HVS,HEQ⟩:=hrel;have HBW:=Hd (HB1.out.trans (HB.out.mono HB1.out.size))
  by_cases c:i<ps.length
  ·obtain⟨p,hp⟩:∃ p,ps[i]=p:=⟨_,rfl⟩
   obtain⟨ad,Ax,cx,e1,x0,xl,xC⟩:=at_L7 (Kd.C_below HPS.out HB.out) (i:Int) zq4 zq4;have hrd:rd_L7 ps (i:Int)=p:=by
    unfold rd_L7;rw[Int.toNat_natCast,List.getD_eq_getElem?_getD,List.getElem?_eq_getElem c];exact hp
   rw[Int.toNat_natCast,hrd] at x0;rw[hrd] at xl xC;cases e1;have hri:i<rs.length:=by rw[HRS.out];exact c
   obtain⟨rp,hrp⟩:∃ z,rs[i]=z:=⟨_,rfl⟩
   obtain⟨hof,hgd⟩:=HIH.out i p rp (by rw[List.getElem?_eq_getElem c,hp]) (by rw[List.getElem?_eq_getElem hri,hrp]);have OC:=Hd (hof Ax cx wr xC xl (HW.out.trans (HBW.out.mono HW.out.size)));have HST:=Hd (show goV fin rs []=goS fin (rs.drop (i+1)) vs rp by rw[HEQ.out,List.drop_eq_getElem_cons hri,hrp,goV_cons]);have pI:(0<=(i:Int))=True:=eq_true zq4;have qI:((i:Int)<(ps.length:Int))=True:=eq_true zq4;clear xl xC hof hrd hp hrp hri;cases rp with
   | error er =>
    have hne:(er != 0)=true:=bne_iff_ne.mpr hgd;clear hgd
    go_wp2_with (go_at_call 131;refine hold3 ?_)
    refine⟨?_⟩;refine OC.out.mono ?_;rintro e w3 ⟨he,hb3⟩;obtain rfl:e = .returned (.tuple #[.agg #[.int .i64 0,.int .i64 0,.string ⟨#[]⟩],.int .i64 er]):=he;obtain⟨pr0,pr1,pr2,qr0,qr1,qr2,prl⟩:=(BR.out.below HB.out).below hb3;have HB3:=Hd (HBW.out.trans (hb3.mono HBW.out.size));clear hb3 OC;go_wp2;exact bodyPost_ret (v:=.tuple #[.agg #[.int .i64 0,.int .i64 0,.string ⟨#[]⟩],.int .i64 er]) (by simp[results,Tryz.results131,go_sem, *]) rfl ⟨by rw[HST.out];rfl,below_alloc (below_set3 HB3.out _ (Nat.le_refl _) _ _ _) _⟩
   | ok v =>
    have HGD:=Hd (show VOk v from hgd);clear hgd
    go_wp2_with (go_at_call 131;refine hold3 ?_)
    refine⟨?_⟩;refine OC.out.mono ?_;rintro e w3 ⟨he,hb3⟩;obtain rfl:e = .returned (.tuple #[.agg #[.int .i64 (thV v).f0,.int .i64 (thV v).f1,.string (thV v).f2],.int .i64 0]):=he;have HB3:=Hd (HB.out.trans (hb3.mono HB.out.size));have HO3:=Hd (Kd.R_below HO.out hb3);have HLV:=Hd (show (vs.map thV).length<=2 by rw[List.length_map,HN.out];omega);clear hb3 OC HO
    go_wp2_with (((with_reducible refine gate_dst (N:=38) rfl ?_);at_builtin;refine Kd.R_append kV (w0:=w1) w1.heap.size rfl (.tmp 35) (.tmp 37) 38 tV (.agg #[(.int .i64 0),(.int .i64 0),(.string ⟨#[]⟩)]) 32 rfl huV info65 rfl zq34 zq4 (.slice A7 vs.length c7) (vs.map thV) (thV v) [.int .i64 (thV v).f0,.int .i64 (thV v).f1,.string (thV v).f2] (fun _=>True) (fun _=>False) rfl (by show Value.slice (some ⟨w3.heap.size+1,0,none⟩) 1 1=_;rw[World.size_alloc]) ?aP (fun _ h=>h.elim) (fun _ _=>trivial) ?aO ?aB ?aS ?aL ?_;(case aP=>exact k65_mkM _ _ _ (thV v));(case aO=>exact Kd.R_alloc HO3.out _);(case aB=>exact below_alloc HB3.out _);(case aS=>rw[World.size_alloc];have:=HB3.out.size;omega);(case aL=>have:=HLV.out;omega);intro v38 w4 ho hb hg_ hnew_;have HO4:=Hd ho;have HB4:=Hd hb;clear ho hb hg_ hnew_))
    rw[show vs.map thV ++ [thV v]=(vs ++ [v]).map thV by simp] at HO4;obtain⟨A8,c8,hv8⟩:=Kd.R_slice HO4.out;rw[List.length_map] at hv8;subst hv8;go_roundw
    case rel=>exact⟨i+1,vs ++ [v],A8,c8,by omega,by go_num,rfl,⟨HO4.out⟩,⟨HB4.out⟩,⟨by rw[List.length_append,HN.out];rfl⟩,⟨fun x hx=>(List.mem_append.1 hx).elim (HVS.out x) (fun h=>by rw[List.mem_singleton] at h;rw[h];exact HGD.out)⟩,⟨HST.out⟩⟩
    case measure=>simp[intOf];omega
  ·obtain rfl:i=ps.length:=by omega
   rw[<- HRS.out,List.drop_length,goV] at HEQ;have hl64:=HL.out;have hxl:=HXL.out;obtain⟨ad,e1,x0,x1,x2⟩:=at_T68 (Kd.C_below HX.out HBW.out) ((q.length:Nat):Int) zq4 zq4;have hro:rd_T68 x ((q.length:Nat):Int)=o:=by
    unfold rd_T68;rw[Int.toNat_natCast,List.getD_eq_getElem?_getD,HXO.out];rfl
   rw[Int.toNat_natCast,hro] at x0 x1 x2;cases e1;have hw1:wrap64 ((x.length:Int) - 1)=((q.length:Nat):Int):=by unfold wrap64;omega
   have pK:(0<=((q.length:Nat):Int))=True:=eq_true zq4;have qK:(((q.length:Nat):Int)<(x.length:Int))=True:=eq_true zq4;have BW:=Hd (BR.out.below HB.out);clear hxl hl64 hro BR;have hB1:=below_alloc (Below.refl wr.heap.size wr) (.cells #[.int .i64 o.f0,.int .i64 o.f1,.string o.f2] 68);have hB2:=below_alloc hB1 (.cells #[.int .i64 0,.int .i64 0,.string ⟨#[]⟩] tV)
   match vs,HN,HVS,HEQ,HO with
   | [],HN,HVS,HEQ,HO =>
    clear hB1 hB2
    go_wp2_with (go_at_call 159;refine hold3 ?_)
    refine⟨?_⟩;refine (H0.out HN.out.symm _ (HW.out.trans ((below_alloc (below_alloc HBW.out _) _).mono HW.out.size))).mono ?_;rintro e w3 ⟨he,hb3⟩;obtain rfl:e = .returned (.tuple #[.agg #[.int .i64 (fin []).1,.int .i64 (fin []).2.1,.string (fin []).2.2.1],.int .i64 (fin []).2.2.2]):=he;obtain⟨pr0,pr1,pr2,qr0,qr1,qr2,prl⟩:=(BW.out.below (below_alloc (below_alloc (Below.refl _ wr) _) _)).below hb3;have HB3:=Hd ((below_alloc (below_alloc HBW.out _) _).trans (hb3.mono (below_alloc (below_alloc HBW.out _) _).size));clear hb3 BW;go_wp2;rw[HEQ.out];exact bodyPost_ret (v:=.tuple #[.agg #[.int .i64 (fin []).1,.int .i64 (fin []).2.1,.string (fin []).2.2.1],.int .i64 (fin []).2.2.2]) (by simp[results,Tryz.results131,go_sem, *]) rfl ⟨rfl,below_set3 HB3.out _ (Nat.le_refl _) _ _ _⟩
   | [a],HN,HVS,HEQ,HO =>
    obtain⟨bd,e2,y0,y1,y2⟩:=at_T65 (Kd.R_reads' HO.out).2.2 0 zq34 zq30;cases e2;rw[show bd.add ((0:Int).toNat*3)=bd by cases bd;rfl,show rd_T65 ([a].map thV) 0=thV a from rfl] at y0 y1 y2;replace y0:=pw_cell_below hB2 y0;replace y1:=pw_cell_below hB2 y1;replace y2:=pw_cell_below hB2 y2;clear hB1 hB2
    go_wp2_with (go_at_call 159;refine hold3 ?_)
    refine⟨?_⟩;refine (H1.out a (HVS.out a zq30) HN.out.symm _ (HW.out.trans ((below_alloc (below_alloc HBW.out _) _).mono HW.out.size))).mono ?_;rintro e w3 ⟨he,hb3⟩;obtain rfl:e = .returned (.tuple #[.agg #[.int .i64 (fin [a]).1,.int .i64 (fin [a]).2.1,.string (fin [a]).2.2.1],.int .i64 (fin [a]).2.2.2]):=he;obtain⟨pr0,pr1,pr2,qr0,qr1,qr2,prl⟩:=(BW.out.below (below_alloc (below_alloc (Below.refl _ wr) _) _)).below hb3;have HB3:=Hd ((below_alloc (below_alloc HBW.out _) _).trans (hb3.mono (below_alloc (below_alloc HBW.out _) _).size));clear hb3 BW;go_wp2;rw[HEQ.out];exact bodyPost_ret (v:=.tuple #[.agg #[.int .i64 (fin [a]).1,.int .i64 (fin [a]).2.1,.string (fin [a]).2.2.1],.int .i64 (fin [a]).2.2.2]) (by simp[results,Tryz.results131,go_sem, *]) rfl ⟨rfl,below_set3 HB3.out _ (Nat.le_refl _) _ _ _⟩
   | [a,b],HN,HVS,HEQ,HO =>
    obtain⟨bd,e2,y0,y1,y2⟩:=at_T65 (Kd.R_reads' HO.out).2.2 0 zq34 zq30;obtain⟨bd',e2',z0,z1,z2⟩:=at_T65 (Kd.R_reads' HO.out).2.2 1 zq34 zq30;cases e2;cases e2';rw[show bd.add ((0:Int).toNat*3)=bd by cases bd;rfl,show rd_T65 ([a,b].map thV) 0=thV a from rfl] at y0 y1 y2;rw[show (1:Int).toNat*3=3 from rfl,show rd_T65 ([a,b].map thV) 1=thV b from rfl] at z0 z1 z2;clear hB2;have k0:=(bx1 wr (.int .i64 o.f0) (.int .i64 o.f1) (.string o.f2) 68).c0;obtain⟨wB,hwB⟩:∃ x,x=wr.alloc (.cells #[.int .i64 o.f0,.int .i64 o.f1,.string o.f2] 68):=⟨_,rfl⟩
    rw[<- hwB] at hB1 k0;have KX:=Hd (fun (W:World) (h:Below wB.heap.size wB W) (k:Addr) (v:Value) (hk:wr.cell? k=some v)=>pw_cell_below (hB1.trans (h.mono hB1.size)) hk);have K0:=Hd (fun (W:World) (h:Below wB.heap.size wB W)=>pw_cell_below h k0);have YZ:=Hd (And.intro (And.intro y0 (And.intro y1 y2)) (And.intro z0 (And.intro z1 z2)));have BWB:=Hd (BW.out.below hB1);have HBB:=Hd (HBW.out.trans (hB1.mono HBW.out.size));have TC:=Hd (fun w=>show Calls Tryz.prog 158 #[.int .i64 o.f0,.agg #[.int .i64 (thV a).f0,.int .i64 (thV a).f1,.string (thV a).f2],.agg #[.int .i64 (thV b).f0,.int .i64 (thV b).f1,.string (thV b).f2]] w fun e w'=>e = .returned (.tuple #[.agg #[.int .i64 (fin [a,b]).1,.int .i64 (fin [a,b]).2.1,.string (fin [a,b]).2.2.1],.int .i64 (fin [a,b]).2.2.2])/\Below w.heap.size w w' from H2.out a b (HVS.out a zq30) (HVS.out b zq30) HN.out.symm w);clear y0 y1 y2 z0 z1 z2 k0 hB1 BW;go_wp2;rw[<- hwB];clear hwB;have hbw:=below_drew1 (Below.refl wB.heap.size wB);refine start_ (n:=13) (S:=fun w'=>Below wB.heap.size wB w'/\w'.cell? ⟨wr.heap.size,0,none⟩=some (.int .i64 o.f0)/\w'.cell? bd=some (.int .i64 (thV a).f0)/\w'.cell? ⟨bd.block,bd.off+1,none⟩=some (.int .i64 (thV a).f1)/\w'.cell? ⟨bd.block,bd.off+2,none⟩=some (.string (thV a).f2)/\w'.cell? ⟨bd.block,bd.off+3,none⟩=some (.int .i64 (thV b).f0)/\w'.cell? ⟨bd.block,bd.off+3+1,none⟩=some (.int .i64 (thV b).f1)/\w'.cell? ⟨bd.block,bd.off+3+2,none⟩=some (.string (thV b).f2)) (ds:=[11]) #[false,false,false,false,false,false,false,false,false,false,false,false,false] zq17 rfl rfl ⟨hbw,K0.out _ hbw,KX.out _ hbw _ _ YZ.out.1.1,KX.out _ hbw _ _ YZ.out.1.2.1,KX.out _ hbw _ _ YZ.out.1.2.2,KX.out _ hbw _ _ YZ.out.2.1,KX.out _ hbw _ _ YZ.out.2.2.1,KX.out _ hbw _ _ YZ.out.2.2.2⟩ (fun hHeld=>?_);refine with_tabW hof.tab12 hof.bits12 (fun HT_ HW_=>?_);refine pZ 0 48 ?_;refine pZ 2 50 ?_;refine pZ 3 51 ?_;refine pZ 5 53 ?_;refine pZ 6 54 ?_;refine tZ8 1 49 ?_;refine tZ8 4 52 ?_;refine tZ8 7 55 ?_;refine oZ 8 56 (fun K hK=>?_);refine goes_ Tryz.func158 zq17 rfl #[.int .i64 o.f0,.agg #[.int .i64 (thV a).f0,.int .i64 (thV a).f1,.string (thV a).f2],.agg #[.int .i64 (thV b).f0,.int .i64 (thV b).f1,.string (thV b).f2]] (by rfl) rfl rfl zq67 ?_
    with_reducible refine (TC.out _).mono ?_
    rintro e w5 ⟨rfl,hb5⟩;refine⟨_,rfl,?_⟩;have hb6:=hHeld.1.trans (hb5.mono hHeld.1.size);obtain⟨pr0,pr1,pr2,qr0,qr1,qr2,prl⟩:=BWB.out.below hb6;refine hK.out _ _ ⟨hb6,K0.out _ hb6,KX.out _ hb6 _ _ YZ.out.1.1,KX.out _ hb6 _ _ YZ.out.1.2.1,KX.out _ hb6 _ _ YZ.out.1.2.2,KX.out _ hb6 _ _ YZ.out.2.1,KX.out _ hb6 _ _ YZ.out.2.2.1,KX.out _ hb6 _ _ YZ.out.2.2.2⟩ (fun hHeld=>?_);clear hK K;refine nZ 56 ?_;refine pZ 9 57 ?_;refine pZ 10 58 ?_;refine last_ (i:=11) (N:=none) #[true,true,true,true,true,true,true,true,true,true,true,true,false] rfl rfl (one_of HT_.out zq17) zq34 (fun K hK=>?_);refine skip_ (w1:=?_) (by rfl) rfl ?_ ?_;rotate_left
    ·go_simp
     rfl
    refine hK.out _ _ ?_;clear hK K;refine pZ 12 5 ?_;refine done_ (done_of HT_.out zq17) ?_;go_wp2;rw[HEQ.out];exact bodyPost_ret (v:=.tuple #[.agg #[.int .i64 (fin [a,b]).1,.int .i64 (fin [a,b]).2.1,.string (fin [a,b]).2.2.1],.int .i64 (fin [a,b]).2.2.2]) (by simp[results,Tryz.results131,go_sem, *]) rfl ⟨rfl,below_set3 (HBB.out.trans (hb6.mono HBB.out.size)) _ (Nat.le_refl _) _ _ _⟩
   | a :: b :: c :: _,HN,HVS,HEQ,HO=>exact absurd HN.out zq33
theorem r64_0:R64 0:=by unfold R64;omega
theorem hof_T (A1:Option Addr) (c1:Nat) (row:List Vl) (W0:World) (hrow:Kd.C kV W0 A1 row.length row) (hc1:row.length<=c1) (hr:ROk row):∀ t:T,t.ok->(∀ o ∈ t.fl,R64 o.f1)->t.fl.length<=64->OfIs A1 c1 row W0 t.fl (outV (t.ev row))
 | .l o,h,ho,hl=>of_walk A1 c1 row W0 hrow hc1 [] o [] [] (fun _=>outV (evL row o)) hl zq30 rfl (hparts_calls (.l o) h hl) zq30 zq30 zq30 (fun _ w hb=>by
   show oneCalls o.f0 o.f1 o.f2 A1 c1 row 0 0 ⟨#[]⟩ w (outV (evL row o))
   rw[<- oneV_L row hr o h.1 h.2];exact hone_calls A1 c1 row o.f0 o.f1 0 0 o.f2 ⟨#[]⟩ w (Kd.C_below hrow hb) (fun h3=>(EvP.okW_get h.1 h3).1) r64_0)
 | .u o t,h,ho,hl=>by
  have ho':∀ o ∈ t.fl,R64 o.f1:=fun o' h'=>ho o' (by simp[T.fl,h'])
  have hl':t.fl.length<=64:=by simp[T.fl] at hl;omega
  have:=of_walk A1 c1 row W0 hrow hc1 t.fl o [t.fl] [t.ev row] (fun vs=>match vs with
   | [x]=>outV (evU o.f0 x)
   | _=>outV (.error 0)) hl zq30 rfl (hparts_calls (.u o t) h hl) (fun i p r hp hq=>by
    cases i with
    | zero=>injection hp with hp;injection hq with hq;subst hp hq;exact⟨hof_T A1 c1 row W0 hrow hc1 hr t h.2.2 ho' hl',good_ev row hr t h.2.2 ho'⟩
    | succ n=>simp at hp) zq30 (fun a ha _ w hb=>by
   show oneCalls o.f0 o.f1 o.f2 A1 c1 row (thV a).f0 (thV a).f1 (thV a).f2 w (outV (evU o.f0 a))
   rw[<- oneV_U row o h.2.1 a];refine hone_calls A1 c1 row o.f0 o.f1 _ _ o.f2 _ w (Kd.C_below hrow hb) (fun h3=>by rcases EvP.takes_1 h.2.1 with h' | h' | h' <;> omega) ?_;cases a with
   | num n=>exact ha
   | txt s=>exact r64_0) zq30
  have e:outV ((T.u o t).ev row)=goV (fun vs=>match vs with
   | [x]=>outV (evU o.f0 x)
   | _=>outV (.error 0)) [t.ev row] []:=by
   rw[T.ev_u];cases t.ev row <;> rfl
  rw[e];exact this
 | .b o t s,h,ho,hl=>by
  have ho1:∀ o ∈ t.fl,R64 o.f1:=fun o' h'=>ho o' (by simp[T.fl,h'])
  have ho2:∀ o ∈ s.fl,R64 o.f1:=fun o' h'=>ho o' (by simp[T.fl,h'])
  have hfl:(T.b o t s).fl=(t.fl ++ s.fl) ++ [o]:=by simp[T.fl]
  have hl':t.fl.length<=64/\s.fl.length<=64:=by simp[T.fl] at hl;omega
  have:=of_walk A1 c1 row W0 hrow hc1 (t.fl ++ s.fl) o [t.fl,s.fl] [t.ev row,s.ev row] (fun vs=>match vs with
   | [x,y]=>outV (evB o.f0 x y)
   | _=>outV (.error 0)) (by rw[<- hfl];exact hl) zq30 rfl (by rw[<- hfl];exact hparts_calls (.b o t s) h hl) (fun i p r hp hq=>by
    match i with
    | 0=>injection hp with hp;injection hq with hq;subst hp hq;exact⟨hof_T A1 c1 row W0 hrow hc1 hr t h.2.2.1 ho1 hl'.1,good_ev row hr t h.2.2.1 ho1⟩
    | 1=>injection hp with hp;injection hq with hq;subst hp hq;exact⟨hof_T A1 c1 row W0 hrow hc1 hr s h.2.2.2 ho2 hl'.2,good_ev row hr s h.2.2.2 ho2⟩
    | n+2=>simp at hp) (fun a b ha hb _ w=>by
    obtain⟨k,hk⟩:=(EvP.two_R o.f0 a b ha hb (EvP.takes_2 h.2.1)).get;exact r18_two.calls k o.f0 _ _ _ _ _ _ _ _ _ _ w hk) zq30 zq30
  have e:outV ((T.b o t s).ev row)=goV (fun vs=>match vs with
   | [x,y]=>outV (evB o.f0 x y)
   | _=>outV (.error 0)) [t.ev row,s.ev row] []:=by
   rw[T.ev_b];cases t.ev row with
   | error e=>rfl
   | ok x=>cases s.ev row <;> rfl
  rw[hfl,e];exact this
end Go.Proofs.YtmkgecapkeojaaaGreat.Eg
end
section
namespace Go.Proofs.YtmkgecapkeojaaaGreat.Eg
open PDa
open RowKit YtmkgecapkeojaaaGreatW.PrintWords YtmkgecapkeojaaaGreatW.PrintLast YtmkgecapkeojaaaGreatW.PrintMore
open Rw
open Go.Proofs.YtmkgecapkeojaaaGreat.EvP (evalV XOk)
theorem heval_calls (x:List Op18) (row:List Vl) (h:XOk x row) (A0 A1:Option Addr) (c0 c1:Nat) (w:World) (hx:Kd.C kOp w A0 x.length x) (hc0:x.length<=c0) (hrow:Kd.C kV w A1 row.length row) (hc1:row.length<=c1) :
  Calls Tryz.prog 89 #[.slice A0 x.length c0,.slice A1 row.length c1] w fun e w'=>OutV (evalV x row) e/\Below w.heap.size w w':=by
 obtain⟨wA,hwA⟩:∃ z,z=w.alloc (.cells #[.int .i64 0,.int .i64 0,.string ⟨#[]⟩] tV):=⟨_,rfl⟩
 have HBA:=Hd (show Below w.heap.size w wA by rw[hwA];exact below_alloc (Below.refl _ _) _);have BA:=Hd (show Bx w.heap.size wA (.int .i64 0) (.int .i64 0) (.string ⟨#[]⟩) by rw[hwA];exact bx1 _ _ _ _ _);obtain⟨kf,hkf⟩:=(EvP.form_R x).get;obtain⟨km,hkm⟩:=(EvP.mayR row).get;obtain⟨f,hf⟩:∃ z,EvP.formV x=z:=⟨_,rfl⟩
 obtain⟨m,hm⟩:∃ z,rowMay row=z:=⟨_,rfl⟩
 rw[hf] at hkf;rw[hm] at hkm;have FC:=Hd (r17_Form.calls kf A0 c0 x f wA (Kd.C_below hx HBA.out) hc0 hkf);have MC:=Hd (fun (W:World) (hb:Below w.heap.size w W)=>r06_May.calls km A1 c1 row m W (Kd.C_below hrow hb) hc1 hkm);have OC:=Hd (fun (hf0:f=0) (hm0:m=true) (W:World) (hb:Below w.heap.size w W)=>show Calls Tryz.prog 131 #[.slice A0 x.length c0,.slice A1 row.length c1] W fun e w'=>OutV (evalV x row) e/\Below W.heap.size W w' by
  obtain⟨t,ht,hxt,hl⟩:=EvP.formV_0 (hf.trans hf0);rw[hxt] at hl hf hx hc0 h ⊢;rw[EvP.evalV_T t ht row (hf.trans hf0) (hm.trans hm0)];exact hof_T A1 c1 row w hrow hc1 ⟨hm.trans hm0,h.row⟩ t ht h.x hl A0 c0 W (Kd.C_below hx hb) hc0 hb)
 have HF:=Hd hf;have HM:=Hd hm;clear hf hm hkf hkm hx hrow hc0 hc1;go_enter Tryz.func89,Tryz.ntmps89
 go_wp2_with (go_at_call 51;refine hold3 ?_)
 refine⟨?_⟩;rw[<- hwA];clear hwA;refine FC.out.mono ?_;rintro e w1 ⟨rfl,hb1⟩;have HB1:=Hd (HBA.out.trans (hb1.mono HBA.out.size));have B1:=Hd (BA.out.below hb1);clear hb1 FC BA HBA
 by_cases h0:f=0
 ·subst h0
  go_wp2_with (go_at_call 69;refine hold3 ?_)
  refine⟨?_⟩;refine (MC.out _ HB1.out).mono ?_;rintro e w2 ⟨rfl,hb2⟩;have HB2:=Hd (HB1.out.trans (hb2.mono HB1.out.size));have B2:=Hd (B1.out.below hb2);clear hb2 B1 MC;cases m with
  | false =>
   obtain⟨pr0,pr1,pr2,qr0,qr1,qr2,prl⟩:=B2.out;have HV:=Hd (show evalV x row=(0,0,⟨#[]⟩,2) by unfold evalV;rw[if_neg (by rw[HF.out];decide),if_pos HM.out]);go_wp2;rw[HV.out];exact bodyPost_ret (v:=.tuple #[.agg #[.int .i64 0,.int .i64 0,.string ⟨#[]⟩],.int .i64 2]) (by simp[results,Tryz.results89,go_sem, *]) rfl ⟨rfl,below_set3 HB2.out _ (Nat.le_refl _) _ _ _⟩
  | true =>
   have OC2:=Hd (OC.out zq58 zq58 w2 HB2.out);clear OC
   go_wp2_with (go_at_call 131;refine hold3 ?_)
   refine⟨?_⟩;refine OC2.out.mono ?_;rintro e w3 ⟨he,hb3⟩;obtain rfl:e = .returned (.tuple #[.agg #[.int .i64 (evalV x row).1,.int .i64 (evalV x row).2.1,.string (evalV x row).2.2.1],.int .i64 (evalV x row).2.2.2]):=he;obtain⟨pr0,pr1,pr2,qr0,qr1,qr2,prl⟩:=B2.out.below hb3;have HB3:=Hd (HB2.out.trans (hb3.mono HB2.out.size));clear hb3 OC2 B2;go_wp2;exact bodyPost_ret (v:=.tuple #[.agg #[.int .i64 (evalV x row).1,.int .i64 (evalV x row).2.1,.string (evalV x row).2.2.1],.int .i64 (evalV x row).2.2.2]) (by simp[results,Tryz.results89,go_sem, *]) rfl ⟨rfl,below_set3 HB3.out _ (Nat.le_refl _) _ _ _⟩
 ·have hne:(f != 0)=true:=bne_iff_ne.mpr h0
  have HV:=Hd (show evalV x row=(0,0,⟨#[]⟩,f) by unfold evalV;rw[HF.out,if_pos h0]);obtain⟨pr0,pr1,pr2,qr0,qr1,qr2,prl⟩:=B1.out;clear h0;go_wp2;rw[HV.out];exact bodyPost_ret (v:=.tuple #[.agg #[.int .i64 0,.int .i64 0,.string ⟨#[]⟩],.int .i64 f]) (by simp[results,Tryz.results89,go_sem, *]) rfl ⟨rfl,below_set3 HB1.out _ (Nat.le_refl _) _ _ _⟩
theorem hholds_calls (x:List Op18) (row:List Vl) (h:XOk x row) (A0 A1:Option Addr) (c0 c1:Nat) (w:World) (hx:Kd.C kOp w A0 x.length x) (hc0:x.length<=c0) (hrow:Kd.C kV w A1 row.length row) (hc1:row.length<=c1) :
  Calls Tryz.prog 52 #[.slice A0 x.length c0,.slice A1 row.length c1] w fun e w'=>e = .returned (.tuple #[.bool (EvP.holdsV x row).1,.int .i64 (EvP.holdsV x row).2])/\Below w.heap.size w w':=by
 have EC:=Hd (heval_calls x row h A0 A1 c0 c1 w hx hc0 hrow hc1);obtain⟨⟨k,n,s,er⟩,hv⟩:∃ z,evalV x row=z:=⟨_,rfl⟩
 rw[hv] at EC;unfold EvP.holdsV;rw[hv];clear hv hx hrow hc0 hc1 h;go_enter Tryz.func52,Tryz.ntmps52
 go_wp2_with (go_at_call 89;refine hold3 ?_)
 refine⟨?_⟩;refine EC.out.mono ?_;rintro e w1 ⟨he,hb1⟩;obtain rfl:e = .returned (.tuple #[.agg #[.int .i64 k,.int .i64 n,.string s],.int .i64 er]):=he;have HB1:=Hd (below_alloc hb1 (.cells #[.int .i64 k,.int .i64 n,.string s] tV));clear hb1 EC
 by_cases h0:er=0
 ·subst h0
  by_cases h1:k=1
  ·subst h1
   go_wp2;go_ret2;exact⟨by simp,HB1.out⟩
  ·have hne:(k != 1)=true:=bne_iff_ne.mpr h1
   have HN:=Hd h1;clear h1;go_wp2;go_ret2;exact⟨(by first | rfl | (rw[if_neg HN.out];rfl)),HB1.out⟩
 ·have hne:(er != 0)=true:=bne_iff_ne.mpr h0
  have HN:=Hd h0;clear h0;go_wp2;go_ret2;exact⟨(by first | rfl | (rw[if_neg HN.out];rfl)),HB1.out⟩
end Go.Proofs.YtmkgecapkeojaaaGreat.Eg
end
section
namespace Go.Proofs.YtmkgecapkeojaaaGreat.Eg
open PDa
open RowKit YtmkgecapkeojaaaGreatW.PrintWords YtmkgecapkeojaaaGreatW.PrintLast YtmkgecapkeojaaaGreatW.PrintMore
open Stp Rw
theorem mapR_sub (g:List Jp->List Jp × Int):∀ (gs:List (List Vl × List Jp)) (out:List EdP),(∀ e ∈ (mapR g out gs).1,e ∈ out \/ ∃ x ∈ gs,e.f0=x.1)/\(out.length<=4096->(mapR g out gs).1.length<=4096)
 | [],out=>by rw[mapR];exact⟨fun e he=>.inl he,fun h=>h⟩
 | x :: xs,out=>by
  rw[mapR]
  split
  ·exact⟨by simp,by simp⟩
  ·split
   ·exact⟨by simp,by simp⟩
   ·rename_i c
    obtain⟨h1,h2⟩:=mapR_sub g xs (putP out x.1 (g x.2).1);refine⟨fun e he=>?_,fun _=>h2 zq4⟩
    rcases h1 e he with h | ⟨y,hy,h⟩
    ·unfold putP at h
     rw[List.mem_append] at h
     rcases h with h | h
     ·exact .inl h
     ·obtain⟨j,_,rfl⟩:=List.mem_map.1 h
      exact .inr ⟨x,List.mem_cons_self,rfl⟩
    ·exact .inr ⟨y,List.mem_cons_of_mem _ hy,h⟩
theorem normV_sub (l:List EdP):(∀ e ∈ (normV l).1,e.f0.length<=8)/\(normV l).1.length<=4096:=by
 unfold normV
 split
 ·exact⟨by simp,by simp⟩
 ·split
  ·exact⟨by simp,by simp⟩
  ·rename_i h _
   obtain⟨h1,h2⟩:=mapR_sub normJ (groups l) [];refine⟨fun e he=>?_,h2 zq30⟩
   rcases h1 e he with h3 | ⟨x,hx,h3⟩
   ·simp at h3
   ·obtain⟨r,hr,rfl⟩:=List.mem_map.1 hx
    obtain⟨e',he',e1⟩:=(rowsOf_mem l r).1 hr;have ha:argE e'=false:=by
     cases c:argE e' with
     | false=>rfl
     | true=>exact absurd (List.any_eq_true.2 ⟨e',he',c⟩) h
    have:=may_len (argE_parts ha).1;rw[h3]
    show r.length<=8
    rw[<- e1];exact this
def Ans (r:List EdP × Int) (w:World) (e:Ending) (w':World):Prop := ∃ A c,e = .returned (.tuple #[.slice A r.1.length c,.int .i64 r.2])/\Kd.C kE w' A r.1.length r.1/\r.1.length<=c/\Below w.heap.size w w'
end Go.Proofs.YtmkgecapkeojaaaGreat.Eg
end
section
namespace Go.Proofs.YtmkgecapkeojaaaGreat.Eg
open PDa
open Go.Proofs.YtmkgecapkeojaaaGreat.EvP (evalV formV holdsV)
open RowKit YtmkgecapkeojaaaGreatW.PrintWords Stp Rw Cmp Canon
def Wt (φ:List Vl->Int) (t:Int) (l:List EdP):Int:=S (fun k=>if k.2<=t then φ k.1 else 0) (l.map pE)
theorem Wt_append (φ:List Vl->Int) (t:Int) (a b:List EdP):Wt φ t (a ++ b)=Wt φ t a+Wt φ t b:=by unfold Wt;rw[List.map_append,S_append]
theorem Wt_J (φ:List Vl->Int) (t:Int) {a b:List EdP} (h:∀ k,JE a k=JE b k):Wt φ t a=Wt φ t b:=S_congr _ h
theorem Wt_nil (φ:List Vl->Int) (t:Int):Wt φ t []=0:=rfl
theorem Wt_cons (φ:List Vl->Int) (t:Int) (e:EdP) (es:List EdP):Wt φ t (e :: es)=(if e.f1<=t then φ e.f0 else 0)*e.f2+Wt φ t es:=rfl
theorem Wt_put (φ:List Vl->Int) (t:Int) (r:List Vl):∀ f:List Jp,Wt φ t (putP [] r f)=φ r*valI f t
 | []=>by simp[putP,Wt_nil,valI]
 | j :: js=>by
  have e:putP [] r (j :: js)=⟨r,j.f0,j.f1⟩ :: putP [] r js:=rfl;rw[e,Wt_cons,Wt_put φ t r js,valI]
  split
  ·rw[Int.mul_add]
  ·simp
def Sm {α:Type} (f:α->Int):List α->Int
 | []=>0
 | x :: xs=>f x+Sm f xs
theorem Sm_congr {α:Type} {f g:α->Int}:∀ {l:List α},(∀ x ∈ l,f x=g x)->Sm f l=Sm g l
 | [],_=>rfl
 | x :: xs,h=>by rw[Sm,Sm,h x List.mem_cons_self,Sm_congr fun y hy=>h y (List.mem_cons_of_mem _ hy)]
theorem Wt_flatMap {α:Type} (φ:List Vl->Int) (t:Int) (g:α->List EdP):∀ l:List α,Wt φ t (l.flatMap g)=Sm (fun x=>Wt φ t (g x)) l
 | []=>rfl
 | x :: xs=>by rw[List.flatMap_cons,Wt_append,Wt_flatMap φ t g xs,Sm]
theorem Wt_flatG (φ:List Vl->Int) (t:Int) (G:List Gr):Wt φ t (flatG G)=Sm (fun x=>φ x.1*valI x.2 t) G:=by
 unfold flatG;rw[Wt_flatMap];exact Sm_congr fun x _=>Wt_put φ t x.1 x.2
theorem Wt_runs (φ:List Vl->Int) (t:Int) (l:List EdP):Sm (fun x=>φ x.1*valI x.2 t) (runsP l)=Wt φ t l:=by rw[<- Wt_flatG,runs_flat]
theorem Wt_val (r:List Vl) (t:Int) (l:List EdP):valI (jumpsOf l r) t=Wt (fun q=>if q=r then 1 else 0) t l:=by
 rw[val_split];unfold Wt
 congr 1
 funext k
 by_cases h:k.1=r <;> by_cases h2:k.2<=t <;> simp[h,h2]
theorem Wt_congr {φ ψ:List Vl->Int} (t:Int):∀ {l:List EdP},(∀ e ∈ l,φ e.f0=ψ e.f0)->Wt φ t l=Wt ψ t l
 | [],_=>rfl
 | e :: es,h=>by rw[Wt_cons,Wt_cons,h e List.mem_cons_self,Wt_congr t fun y hy=>h y (List.mem_cons_of_mem _ hy)]
theorem Wt_mul (c:Int) (φ:List Vl->Int) (t:Int):∀ l:List EdP,Wt (fun q=>c*φ q) t l=c*Wt φ t l
 | []=>by simp[Wt_nil]
 | e :: es=>by
  rw[Wt_cons,Wt_cons,Wt_mul c φ t es,Int.mul_add, <- Int.mul_assoc]
  split <;> simp
theorem joinV_ok {a b c:List Vl} (h:joinV a b=(c,0)):rowMay a=true/\rowMay b=true/\a.length+b.length<=8/\c=a ++ b:=by
 unfold joinV at h
 by_cases h1:(rowMay a && rowMay b)=true
 ·rw[if_pos h1] at h
  rw[Bool.and_eq_true] at h1
  by_cases h2:8<a.length+b.length
  ·rw[if_pos h2] at h;cases h
  ·rw[if_neg h2] at h
   exact⟨h1.1,h1.2,by omega,(congrArg Prod.fst h).symm⟩
 ·rw[if_neg h1] at h;cases h
end Go.Proofs.YtmkgecapkeojaaaGreat.Eg
end
section
namespace Go.Proofs.YtmkgecapkeojaaaGreat.Eg
open PDa EvP
open RowKit YtmkgecapkeojaaaGreatW.PrintWords YtmkgecapkeojaaaGreatW.PrintLast YtmkgecapkeojaaaGreatW.PrintMore
open Stp Rw
theorem nilT:(⟨#[]⟩:ByteArray).toList=[]:=(toList_nil_iff_emptyBytes _).2 rfl
theorem rowMay1 (a:Int):rowMay [⟨1,a,⟨#[]⟩⟩]=true:=by simp[rowMay,thOf,nilT]
theorem thO_num (a:Int):thO (Th.num a)=some (Th.num a):=by
 simp[thO,thVal3,thOf]
def v7:Rw.Vl:=⟨1,7,⟨#[]⟩⟩
def a2:EdP:=⟨[v1],9,-1⟩
def b1:EdP:=⟨[v7],5,1⟩
def b2:EdP:=⟨[v7],12,-1⟩
def jx2:List Op8:=[⟨3,0,⟨#[]⟩⟩,⟨3,1,⟨#[]⟩⟩,⟨13,0,⟨#[]⟩⟩]
def p1:EdP:=⟨[v1,v7],5,1⟩
def p2:EdP:=⟨[v1,v7],9,-1⟩
def jt2:T:=.b ⟨13,0,⟨#[]⟩⟩ (.l ⟨3,0,⟨#[]⟩⟩) (.l ⟨3,1,⟨#[]⟩⟩)
theorem jt2_ok:jt2.ok:=by
 refine⟨?_,by decide,⟨?_,by decide⟩,⟨?_,by decide⟩⟩ <;> simp[okW,noT,nilT,takes]
theorem jx2_form:formV jx2=0:=by
 have h:=parse_fl jt2 jt2_ok [] [];rw[List.append_nil] at h;have e:jt2.fl=jx2:=rfl;unfold formV;rw[if_neg zq34, <- e,h];rfl
theorem runs2 (r:List Rw.Vl) (a b c d:Int):runsP [⟨r,a,b⟩,⟨r,c,d⟩]=[(r,[⟨a,b⟩,⟨c,d⟩])]:=by simp[runsP,runAt,eqR_refl,jmpE]
theorem may2 (r:List Rw.Vl) (a b c d:Int) (hr:rowMay r=true) (hm:mayJ [⟨a,b⟩,⟨c,d⟩]=true):mayE [⟨r,a,b⟩,⟨r,c,d⟩]=true:=by
 unfold mayE eachP;rw[runs2];simp only[eachR,lastB,hr,hm]
 rfl
end Go.Proofs.YtmkgecapkeojaaaGreat.Eg
end
