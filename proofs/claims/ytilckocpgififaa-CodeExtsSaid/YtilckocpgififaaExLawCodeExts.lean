/- CodeExts: any extrinsic as bytes, or refused; any bytes as an extrinsic, or refused; any two whether they are one. For all extrinsics, all bytes (laid by mkexts.py). -/
import Derived.Test.YtilckocpgififaaExHStep
import Derived.Test.YtilckocpgififaaExFrame
import Derived.Test.YtilckocpgififaaExHKnown
import Derived.Test.YtilckocpgififaaExArgCall
import Derived.Test.YtilckocpgififaaExPTake
import Derived.Test.YtilckocpgififaaExPRead
import Derived.Test.YtilckocpgififaaExHRSameExt
import Derived.Test.YtilckocpgififaaExGx6
namespace Go.Proofs.Ytilckocpgififaa.LawCodeExts
set_option linter.unusedSimpArgs false
set_option linter.unusedVariables false
open Go.Extern.Stop (cell)
open Go.ChangeShapes Go.WideShapes Go.ChangeAt Go.RowKit Go.Proofs.Ytilckocpgififaa.G Go.Proofs.Ytilckocpgififaa.PNum Go.Proofs.Ytilckocpgififaa.Frame Go.Proofs.YtilckocpgififaaW.PrintWords Go.Proofs.YtilckocpgififaaW.PrintLast Go.Proofs.YtilckocpgififaaW.PrintMore
def exts_r7.T : Bool × List (List Nat × List Nat):=(true,[([],[]),([0],[0]),([],[]),([2],[2]),([1,3],[1,3]),([4],[4]),([5],[5]),([5],[5]),([6,7,5],[5,6,7]),([5,8],[5,8]),([9,5],[9]),([10],[10]),([10],[10]),([11,12,10,10],[10,11,12]),([10,13],[10,13]),([14,13],[14]),([15],[15]),([15],[15]),([16,17,15],[15,16,17]),([15,18],[15,18]),([19,15],[19]),([20],[20]),([21,20,20],[20,21]),([20],[20]),([23,22,20],[20,23]),([22,24,20],[20,22,24]),([20,25],[20,25]),([26,24],[26]),([27],[27]),([27],[27]),([28,29,27,27],[27,28,29]),([27],[27]),([27],[27]),([31,32,30,27],[27,31,32]),([30,33,27],[27,30,33]),([27,34],[27,34]),([35,33],[35]),([36],[36]),([36],[36]),([37,38,36,36],[36,37,38]),([36,39],[36,39]),([40,39],[40]),([41,41],[41]),([41,42],[41,42]),([43,42,0,1,2,3,4,5,6,7,8,9,10,11,12,13,14,15,16,17,18,19,20,21,22,23,24,25,26,27,28,29,30,31,32,33,34,35,36,37,38,39,40,41,42,43],[43])])
def exts_r7.B : List Nat:=[0,1,0,4,15,31,63,63,255,511,1023,2047,2047,8191,16383,32767,65535,65535,262143,524287,1048575,2097151,4194303,2097151,16777215,33554431,67108863,134217727,268435455,268435455,1073741823,268435455,268435455,8589934591,17179869183,34359738367,68719476735,137438953471,137438953471,549755813887,1099511627775,2199023255551,4398046511103,8796093022207,17592186044415]
theorem exts_r7.tab : rtab .any (opsOf Try.f7 7) = exts_r7.T:=by kernel_rfl
theorem exts_r7.bits : waitsOk exts_r7.T.2 exts_r7.B = true:=by kernel_rfl
def exts_r7.l0 : Array Bool:=bl 45 1
def exts_r7.l1 : Array Bool:=bl 45 3
def exts_r7.l2 : Array Bool:=bl 45 7
def exts_r7.l3 : Array Bool:=bl 45 15
def exts_r7.l4 : Array Bool:=bl 45 31
def exts_r7.l5 : Array Bool:=bl 45 63
def exts_r7.l6 : Array Bool:=bl 45 127
def exts_r7.l7 : Array Bool:=bl 45 255
def exts_r7.l8 : Array Bool:=bl 45 511
def exts_r7.l9 : Array Bool:=bl 45 1023
def exts_r7.l10 : Array Bool:=bl 45 2047
def exts_r7.l11 : Array Bool:=bl 45 4095
def exts_r7.l12 : Array Bool:=bl 45 8191
def exts_r7.l13 : Array Bool:=bl 45 16383
def exts_r7.l14 : Array Bool:=bl 45 32767
def exts_r7.l15 : Array Bool:=bl 45 65535
def exts_r7.l16 : Array Bool:=bl 45 131071
def exts_r7.l17 : Array Bool:=bl 45 262143
def exts_r7.l18 : Array Bool:=bl 45 524287
def exts_r7.l19 : Array Bool:=bl 45 1048575
def exts_r7.l20 : Array Bool:=bl 45 2097151
def exts_r7.l21 : Array Bool:=bl 45 4194303
def exts_r7.l22 : Array Bool:=bl 45 12582911
def exts_r7.l23 : Array Bool:=bl 45 16777215
def exts_r7.l24 : Array Bool:=bl 45 33554431
def exts_r7.l25 : Array Bool:=bl 45 67108863
def exts_r7.l26 : Array Bool:=bl 45 134217727
def exts_r7.l27 : Array Bool:=bl 45 268435455
def exts_r7.l28 : Array Bool:=bl 45 536870911
def exts_r7.l29 : Array Bool:=bl 45 1073741823
def exts_r7.l30 : Array Bool:=bl 45 3221225471
def exts_r7.l31 : Array Bool:=bl 45 7516192767
def exts_r7.l32 : Array Bool:=bl 45 8589934591
def exts_r7.l33 : Array Bool:=bl 45 17179869183
def exts_r7.l34 : Array Bool:=bl 45 34359738367
def exts_r7.l35 : Array Bool:=bl 45 68719476735
def exts_r7.l36 : Array Bool:=bl 45 137438953471
def exts_r7.l37 : Array Bool:=bl 45 274877906943
def exts_r7.l38 : Array Bool:=bl 45 549755813887
def exts_r7.l39 : Array Bool:=bl 45 1099511627775
def exts_r7.l40 : Array Bool:=bl 45 2199023255551
def exts_r7.l41 : Array Bool:=bl 45 4398046511103
def exts_r7.l42 : Array Bool:=bl 45 8796093022207
def exts_r7.l43 : Array Bool:=bl 45 17592186044415
def exts_r7.l44 : Array Bool:=bl 45 35184372088831
def callL (c : S25) (A : Option Addr) (n : Nat) : List Value:=[.int .i64 c.f0,.int .i64 c.f1,.int .i64 c.f2,.slice A c.f3.length n]
theorem sameX_self (x : Ext) : sameX x x = true:=by simp [sameX]
theorem call_range {w : World} {g : Nat} (x : Ext) (A : Option Addr) (c : Nat) (hx : x.sum.length = 32) (h : w.rangeAt g 0 (x.cells A c)) : w.rangeAt g 45 (callL x.call A c):=by
 obtain ⟨a0,a1,a2,a3⟩:=x.at_call A c hx h;intro j v hj
 match j,hj with
 | 0,hj=>rw [← Option.some.inj (show some (Value.int .i64 x.call.f0) = some v from hj)];exact a0
 | 1,hj=>rw [← Option.some.inj (show some (Value.int .i64 x.call.f1) = some v from hj)];exact a1
 | 2,hj=>rw [← Option.some.inj (show some (Value.int .i64 x.call.f2) = some v from hj)];exact a2
 | 3,hj=>rw [← Option.some.inj (show some (Value.slice A x.call.f3.length c) = some v from hj)];exact a3
theorem same_some : ∀ (f : Nat) (a b : S25),Fits f a → ∃ r,sameF f a b = some r:=fun f a b h=>by
 obtain ⟨K,r,h1,_⟩:=rsame f a b h;exact ⟨r,h1⟩
theorem dec_sum {m : List Int} (hm : IsBytes m) : ((decE m).getD (ext0 0 0)).sum.length = 32:=by
 cases e : decE m with
 | none=>rfl
 | some x=>exact (decE_tells hm e).2.2
def Held (g3 g4 g11 g13 : Nat) (L LO L11 L13 : List Value) (vp vq : Value) (p : List Int) (w : World) : Prop:=
 w.rangeAt g3 0 L ∧ w.rangeAt g4 0 LO ∧ w.rangeAt g11 0 L11 ∧ w.rangeAt g13 0 L13 ∧ (convert 38 9 vp).run Try.prog w = .ok (.string (strOfNums p)) w ∧ (convert 38 9 vq).run Try.prog w = .ok (.string (strOfNums p)) w
set_option maxRecDepth 100000 in
set_option maxHeartbeats 32000000 in
theorem walk (x : Ext) (A : Option Addr) (c : Nat) (o : Ext) (A' : Option Addr) (c' : Nat) (A2 : Option Addr) (c2 : Nat) (m : List Int) (W : World) (hx : x.sum.length = 32) (hC : Kd.C k25 W A x.call.f3.length x.call.f3) (hc : x.call.f3.length ≤ c)
 (ho : o.sum.length = 32) (hD : Kd.C k25 W A' o.call.f3.length o.call.f3) (hd : o.call.f3.length ≤ c') (hm : Kd.C (Kd.int .u8) W A2 m.length m) (hmc : m.length ≤ c2) (hmb : IsBytes m) :
 Calls Try.prog 7 #[.agg (x.cells A c).toArray,.agg (o.cells A' c').toArray,.slice A2 m.length c2] W fun e w'=>e = .returned (.bool true) ∧ Below W.heap.size W w':=by
 obtain ⟨F,hF⟩:=fits_kids W x.call A hC;obtain ⟨k,r,hs⟩:=size_some F x.call hF;obtain ⟨G,hG⟩:=fits_kids W o.call A' hD;obtain ⟨q,r2,hs2⟩:=size_some G o.call hG;obtain ⟨L,hL⟩ : ∃ L,L = x.cells A c:=⟨_,rfl⟩;obtain ⟨LO,hLO⟩ : ∃ L,L = o.cells A' c':=⟨_,rfl⟩;obtain ⟨LD,hLD⟩ : ∃ LD,LD = callL x.call A c:=⟨_,rfl⟩;obtain ⟨LE,hLE⟩ : ∃ LD,LD = callL o.call A' c':=⟨_,rfl⟩;obtain ⟨e0,he0⟩ : ∃ b,isExtP x = b:=⟨_,rfl⟩;obtain ⟨rs,hrs⟩:=same_some F x.call o.call hF;obtain ⟨bs,hbs⟩ : ∃ b,b = (rs && sameX x o):=⟨_,rfl⟩;have HC24 : Aside0 (∀ w,Below W.heap.size W w → Calls Try.prog 13 #[.agg L.toArray] w fun e w'=>e = .returned (.bool e0) ∧ Below w.heap.size w w'):=⟨fun w hb=>by rw [hL,← he0];exact althingref7_IsExt.all x A c w hx (Kd.C_below hC hb) hc⟩;have HC22 : Aside0 (∀ w,Below W.heap.size W w → Calls Try.prog 14 #[.agg L.toArray] w fun e w'=>e = .returned (.bool e0) ∧ Below w.heap.size w w'):=⟨fun w hb=>by rw [hL,← he0];exact code_IsExt.all x A c w hx (Kd.C_below hC hb) hc⟩;have HC30 : Aside0 (∀ w,Below W.heap.size W w → Calls Try.prog 24 #[.agg L.toArray,.agg LO.toArray] w fun e w'=>e = .returned (.bool bs) ∧ Below w.heap.size w w'):=⟨fun w hb=>by rw [hL,hLO,hbs];exact code_SameExt.calls F x o A A' c c' rs w hx ho (Kd.C_below hC hb) hc (Kd.C_below hD hb) hd hrs⟩;have HC33 : Aside0 (∀ w,Below W.heap.size W w → Calls Try.prog 23 #[.agg L.toArray,.agg LO.toArray] w fun e w'=>e = .returned (.bool bs) ∧ Below w.heap.size w w'):=⟨fun w hb=>by rw [hL,hLO,hbs];exact refSameExt_calls F x o A A' c c' rs w hx ho (Kd.C_below hC hb) hc (Kd.C_below hD hb) hd hF hrs⟩
 have HC39 : Aside0 (∀ w,Below W.heap.size W w → Calls Try.prog 24 #[.agg L.toArray,.agg L.toArray] w fun e w'=>e = .returned (.bool true) ∧ Below w.heap.size w w'):=⟨fun w hb=>by
  rw [hL];have:=code_SameExt.calls F x x A A c c true w hx hx (Kd.C_below hC hb) hc (Kd.C_below hC hb) hc (same_self_F F x.call hF);rw [sameX_self] at this
  exact this⟩
 have HC42 : Aside0 (∀ w,Below W.heap.size W w → Calls Try.prog 10 #[] w fun e w'=>e = .returned (.bool true) ∧ Below w.heap.size w w'):=⟨fun w _=>known_calls w⟩;have HSA : Aside0 (∀ w,Below W.heap.size W w → Calls Try.prog 12 #[.agg LD.toArray] w fun e w'=>e = .returned (.int .i64 r) ∧ Below w.heap.size w w'):=⟨fun w hb=>by rw [hLD];exact althinglaw7_size.calls k _ _ _ A c _ _ w (Kd.C_below hC hb) hc hs⟩;have HSO : Aside0 (∀ w,Below W.heap.size W w → Calls Try.prog 12 #[.agg LE.toArray] w fun e w'=>e = .returned (.int .i64 r2) ∧ Below w.heap.size w w'):=⟨fun w hb=>by rw [hLE];exact althinglaw7_size.calls q _ _ _ A' c' _ _ w (Kd.C_below hD hb) hd hs2⟩;have HEN : Aside0 (∀ w,Below W.heap.size W w → Calls Try.prog 19 #[.agg L.toArray] w fun e w'=>∃ v0 : Value,e = .returned (.tuple #[v0,.int .i64 (errE e0)]) ∧ Kd.R (Kd.int .u8) 5 w' w.heap.size (fun _=>True) v0 (bytesE x) ∧ Below w.heap.size w w'):=⟨fun w hb=>by rw [hL,← he0];exact encodeExt_calls x A c w hx (Kd.C_below hC hb) hc⟩;have HER : Aside0 (∀ w,Below W.heap.size W w → Calls Try.prog 20 #[.agg L.toArray] w fun e w'=>∃ v0 : Value,e = .returned (.tuple #[v0,.int .i64 (errE e0)]) ∧ Kd.R (Kd.int .u8) 5 w' w.heap.size (fun _=>True) v0 (bytesE x) ∧ Below w.heap.size w w'):=⟨fun w hb=>by rw [hL,← he0];exact refEncodeExt_calls x A c w hx (Kd.C_below hC hb) hc⟩;have HLl : Aside0 (L.length = 49):=⟨by rw [hL];exact Ext.cells_length _ _ _ hx⟩;have HLOl : Aside0 (LO.length = 49):=⟨by rw [hLO];exact Ext.cells_length _ _ _ ho⟩;have HIL : Aside0 ((Try.prog.info? 33).map (·.size) = some L.length):=⟨by rw [HLl.out];exact info_ext'⟩;have HID : Aside0 ((Try.prog.info? 25).map (·.size) = some LD.length):=⟨by rw [hLD];exact info_call⟩;have HIE : Aside0 ((Try.prog.info? 25).map (·.size) = some LE.length):=⟨by rw [hLE];exact info_call⟩;have HLD : Aside0 (∀ {w' : World} {g : Nat},w'.rangeAt g 0 L → w'.rangeAt g 45 LD):=⟨fun {w' g} h=>by rw [hL] at h;rw [hLD];exact call_range x A c hx h⟩;have HLE : Aside0 (∀ {w' : World} {g : Nat},w'.rangeAt g 0 LO → w'.rangeAt g 45 LE):=⟨fun {w' g} h=>by rw [hLO] at h;rw [hLE];exact call_range o A' c' ho h⟩;rw [← hL,← hLO];have HM:=am hm;have HMC:=am hmc;have HMB:=am hmb;have hml : m.length ≤ 9223372036854775807:=hm.2.1;clear hL hLO hLD hLE hC hc hD hd hx ho hs hs2 hF hG he0 hrs hbs hm hmc hmb
 by_cases h1 : r ≥ 300
 ·have d1 : decide (r ≥ 300) = true:=decide_eq_true h1;go_enter Try.func7,Try.ntmps7
  go_upto_region 1 with (first
   | ((with_reducible refine gate_dst (N:=3) rfl ?_);refine box_event ?hg (N:=3) ?hd (cs:=L.toArray) (t:=33) ?hr ?_;(case hd=>rfl);(case hg=>rfl);(case hr=>first | (go_simp;done) | (go_simp;rfl));intro g3 hg1 w0 hbox1 hb1;have hR3:=rangeAt_box hbox1;have hZ3:=blk_lt hbox1;have hT0:=hb1;clear hg1 hbox1 hb1)
   | ((with_reducible refine gate_dst (N:=4) rfl ?_);refine box_event ?hg (N:=4) ?hd (cs:=LO.toArray) (t:=33) ?hr ?_;(case hd=>rfl);(case hg=>rfl);(case hr=>first | (go_simp;done) | (go_simp;rfl));intro g4 hg1 w1 hbox1 hb1;have hR4:=rangeAt_box hbox1;have hZ4:=blk_lt hbox1;replace hR3:=rangeAt_below hR3 hb1 hZ3;replace hZ3:=Nat.lt_of_lt_of_le hZ3 hb1.size;replace hT0:=below_step hT0 hb1;clear hg1 hbox1 hb1))
  go_wp2_with (first
   | (go_at_call 12;first | ((with_reducible refine (HSA.out _ hT0).mono ?_);rintro e w2 ⟨rfl,hB5⟩;replace hR3:=rangeAt_below hR3 hB5 hZ3;replace hT0:=below_step hT0 hB5;replace hZ3:=Nat.lt_of_lt_of_le hZ3 hB5.size;replace hR4:=rangeAt_below hR4 hB5 hZ4;replace hZ4:=Nat.lt_of_lt_of_le hZ4 hB5.size;clear hB5) | ((with_reducible refine (HSO.out _ hT0).mono ?_);rintro e w3 ⟨rfl,hB5⟩;replace hR3:=rangeAt_below hR3 hB5 hZ3;replace hT0:=below_step hT0 hB5;replace hZ3:=Nat.lt_of_lt_of_le hZ3 hB5.size;replace hR4:=rangeAt_below hR4 hB5 hZ4;replace hZ4:=Nat.lt_of_lt_of_le hZ4 hB5.size;clear hB5))
   | ((with_reducible refine gate_dst (N:=16) rfl ?_);(try (refine gate_guard (by rfl) ?_;dsimp only));refine wpList_load_mid rfl 25 _ rfl g3 45 rfl LD _ (HLD.out hR3) Try.underlying25 rfl HID.out ?_)
   | ((with_reducible refine gate_dst (N:=21) rfl ?_);(try (refine gate_guard (by rfl) ?_;dsimp only));refine wpList_load_mid rfl 25 _ rfl g4 45 rfl LE _ (HLE.out hR4) Try.underlying25 rfl HIE.out ?_))
  all_goals go_ret
  all_goals exact ⟨rfl,hT0⟩
 have d1 : decide (r ≥ 300) = false:=decide_eq_false h1
 by_cases h2 : r2 ≥ 300
 ·have d2 : decide (r2 ≥ 300) = true:=decide_eq_true h2;go_enter Try.func7,Try.ntmps7
  go_upto_region 1 with (first
   | ((with_reducible refine gate_dst (N:=3) rfl ?_);refine box_event ?hg (N:=3) ?hd (cs:=L.toArray) (t:=33) ?hr ?_;(case hd=>rfl);(case hg=>rfl);(case hr=>first | (go_simp;done) | (go_simp;rfl));intro g3 hg1 w0 hbox1 hb1;have hR3:=rangeAt_box hbox1;have hZ3:=blk_lt hbox1;have hT0:=hb1;clear hg1 hbox1 hb1)
   | ((with_reducible refine gate_dst (N:=4) rfl ?_);refine box_event ?hg (N:=4) ?hd (cs:=LO.toArray) (t:=33) ?hr ?_;(case hd=>rfl);(case hg=>rfl);(case hr=>first | (go_simp;done) | (go_simp;rfl));intro g4 hg1 w1 hbox1 hb1;have hR4:=rangeAt_box hbox1;have hZ4:=blk_lt hbox1;replace hR3:=rangeAt_below hR3 hb1 hZ3;replace hZ3:=Nat.lt_of_lt_of_le hZ3 hb1.size;replace hT0:=below_step hT0 hb1;clear hg1 hbox1 hb1))
  go_wp2_with (first
   | (go_at_call 12;first | ((with_reducible refine (HSA.out _ hT0).mono ?_);rintro e w2 ⟨rfl,hB5⟩;replace hR3:=rangeAt_below hR3 hB5 hZ3;replace hT0:=below_step hT0 hB5;replace hZ3:=Nat.lt_of_lt_of_le hZ3 hB5.size;replace hR4:=rangeAt_below hR4 hB5 hZ4;replace hZ4:=Nat.lt_of_lt_of_le hZ4 hB5.size;clear hB5) | ((with_reducible refine (HSO.out _ hT0).mono ?_);rintro e w3 ⟨rfl,hB5⟩;replace hR3:=rangeAt_below hR3 hB5 hZ3;replace hT0:=below_step hT0 hB5;replace hZ3:=Nat.lt_of_lt_of_le hZ3 hB5.size;replace hR4:=rangeAt_below hR4 hB5 hZ4;replace hZ4:=Nat.lt_of_lt_of_le hZ4 hB5.size;clear hB5))
   | ((with_reducible refine gate_dst (N:=16) rfl ?_);(try (refine gate_guard (by rfl) ?_;dsimp only));refine wpList_load_mid rfl 25 _ rfl g3 45 rfl LD _ (HLD.out hR3) Try.underlying25 rfl HID.out ?_)
   | ((with_reducible refine gate_dst (N:=21) rfl ?_);(try (refine gate_guard (by rfl) ?_;dsimp only));refine wpList_load_mid rfl 25 _ rfl g4 45 rfl LE _ (HLE.out hR4) Try.underlying25 rfl HIE.out ?_))
  all_goals go_ret
  all_goals exact ⟨rfl,hT0⟩
 have d2 : decide (r2 ≥ 300) = false:=decide_eq_false h2
 by_cases h3 : m.length > 1500
 ·have d3 : decide ((m.length : Int) > 1500) = true:=decide_eq_true (by omega);have d4 : decide (1500 < m.length) = true:=decide_eq_true h3;go_enter Try.func7,Try.ntmps7
  go_upto_region 1 with (first
   | ((with_reducible refine gate_dst (N:=3) rfl ?_);refine box_event ?hg (N:=3) ?hd (cs:=L.toArray) (t:=33) ?hr ?_;(case hd=>rfl);(case hg=>rfl);(case hr=>first | (go_simp;done) | (go_simp;rfl));intro g3 hg1 w0 hbox1 hb1;have hR3:=rangeAt_box hbox1;have hZ3:=blk_lt hbox1;have hT0:=hb1;clear hg1 hbox1 hb1)
   | ((with_reducible refine gate_dst (N:=4) rfl ?_);refine box_event ?hg (N:=4) ?hd (cs:=LO.toArray) (t:=33) ?hr ?_;(case hd=>rfl);(case hg=>rfl);(case hr=>first | (go_simp;done) | (go_simp;rfl));intro g4 hg1 w1 hbox1 hb1;have hR4:=rangeAt_box hbox1;have hZ4:=blk_lt hbox1;replace hR3:=rangeAt_below hR3 hb1 hZ3;replace hZ3:=Nat.lt_of_lt_of_le hZ3 hb1.size;replace hT0:=below_step hT0 hb1;clear hg1 hbox1 hb1))
  go_wp2_with (first
   | (go_at_call 12;first | ((with_reducible refine (HSA.out _ hT0).mono ?_);rintro e w2 ⟨rfl,hB5⟩;replace hR3:=rangeAt_below hR3 hB5 hZ3;replace hT0:=below_step hT0 hB5;replace hZ3:=Nat.lt_of_lt_of_le hZ3 hB5.size;replace hR4:=rangeAt_below hR4 hB5 hZ4;replace hZ4:=Nat.lt_of_lt_of_le hZ4 hB5.size;clear hB5) | ((with_reducible refine (HSO.out _ hT0).mono ?_);rintro e w3 ⟨rfl,hB5⟩;replace hR3:=rangeAt_below hR3 hB5 hZ3;replace hT0:=below_step hT0 hB5;replace hZ3:=Nat.lt_of_lt_of_le hZ3 hB5.size;replace hR4:=rangeAt_below hR4 hB5 hZ4;replace hZ4:=Nat.lt_of_lt_of_le hZ4 hB5.size;clear hB5))
   | ((with_reducible refine gate_dst (N:=16) rfl ?_);(try (refine gate_guard (by rfl) ?_;dsimp only));refine wpList_load_mid rfl 25 _ rfl g3 45 rfl LD _ (HLD.out hR3) Try.underlying25 rfl HID.out ?_)
   | ((with_reducible refine gate_dst (N:=21) rfl ?_);(try (refine gate_guard (by rfl) ?_;dsimp only));refine wpList_load_mid rfl 25 _ rfl g4 45 rfl LE _ (HLE.out hR4) Try.underlying25 rfl HIE.out ?_))
  all_goals go_ret
  all_goals exact ⟨rfl,hT0⟩
 have d3 : decide ((m.length : Int) > 1500) = false:=decide_eq_false (by omega);have d4 : decide (1500 < m.length) = false:=decide_eq_false h3;obtain ⟨p,hp⟩ : ∃ p,p = bytesE x:=⟨_,rfl⟩;rw [← hp] at HEN HER;obtain ⟨xd,hxd⟩ : ∃ y,(decE m).getD (ext0 0 0) = y:=⟨_,rfl⟩;obtain ⟨ed,hed⟩ : ∃ y,errOf (decE m) = y:=⟨_,rfl⟩;have HXD:=am hxd;have HED:=am hed;have H32 : Aside0 (xd.sum.length = 32):=⟨by rw [← hxd];exact dec_sum HMB.out⟩;obtain ⟨Z,hZ⟩ : ∃ Z,Z = zeroE:=⟨_,rfl⟩;have HZl : Aside0 (Z.length = 49):=⟨by rw [hZ];exact zeroE_length⟩;have HAL : Aside0 (∀ w,(zeroValue 33).run Try.prog w = .ok (.agg Z.toArray) w):=⟨fun w=>by rw [hZ];exact zero_ext w⟩;clear hZ hp hxd hed;go_enter Try.func7,Try.ntmps7
 go_upto_region 1 with (first
  | ((with_reducible refine gate_dst (N:=3) rfl ?_);refine box_event ?hg (N:=3) ?hd (cs:=L.toArray) (t:=33) ?hr ?_;(case hd=>rfl);(case hg=>rfl);(case hr=>first | (go_simp;done) | (go_simp;rfl));intro g3 hg1 w0 hbox1 hb1;have hR3:=rangeAt_box hbox1;have hZ3:=blk_lt hbox1;have hT0:=hb1;clear hg1 hbox1 hb1)
  | ((with_reducible refine gate_dst (N:=4) rfl ?_);refine box_event ?hg (N:=4) ?hd (cs:=LO.toArray) (t:=33) ?hr ?_;(case hd=>rfl);(case hg=>rfl);(case hr=>first | (go_simp;done) | (go_simp;rfl));intro g4 hg1 w1 hbox1 hb1;have hR4:=rangeAt_box hbox1;have hZ4:=blk_lt hbox1;replace hR3:=rangeAt_below hR3 hb1 hZ3;replace hZ3:=Nat.lt_of_lt_of_le hZ3 hb1.size;replace hT0:=below_step hT0 hb1;clear hg1 hbox1 hb1))
 go_upto_region 5 with (first
  | (go_at_call 12;first | ((with_reducible refine (HSA.out _ hT0).mono ?_);rintro e w2 ⟨rfl,hB5⟩;replace hR3:=rangeAt_below hR3 hB5 hZ3;replace hT0:=below_step hT0 hB5;replace hZ3:=Nat.lt_of_lt_of_le hZ3 hB5.size;replace hR4:=rangeAt_below hR4 hB5 hZ4;replace hZ4:=Nat.lt_of_lt_of_le hZ4 hB5.size;clear hB5) | ((with_reducible refine (HSO.out _ hT0).mono ?_);rintro e w3 ⟨rfl,hB5⟩;replace hR3:=rangeAt_below hR3 hB5 hZ3;replace hT0:=below_step hT0 hB5;replace hZ3:=Nat.lt_of_lt_of_le hZ3 hB5.size;replace hR4:=rangeAt_below hR4 hB5 hZ4;replace hZ4:=Nat.lt_of_lt_of_le hZ4 hB5.size;clear hB5))
  | ((with_reducible refine gate_dst (N:=16) rfl ?_);(try (refine gate_guard (by rfl) ?_;dsimp only));refine wpList_load_mid rfl 25 _ rfl g3 45 rfl LD _ (HLD.out hR3) Try.underlying25 rfl HID.out ?_)
  | ((with_reducible refine gate_dst (N:=21) rfl ?_);(try (refine gate_guard (by rfl) ?_;dsimp only));refine wpList_load_mid rfl 25 _ rfl g4 45 rfl LE _ (HLE.out hR4) Try.underlying25 rfl HIE.out ?_)
  | ((with_reducible refine gate_dst (N:=31) rfl ?_);refine wpList_load_mid rfl 33 _ rfl g3 0 rfl L _ hR3 Try.underlying33 rfl HIL.out ?_)
  | ((with_reducible refine gate_dst (N:=36) rfl ?_);refine wpList_load_mid rfl 33 _ rfl g3 0 rfl L _ hR3 Try.underlying33 rfl HIL.out ?_)
  | (go_at_call 19;go_loud ((with_reducible refine (HEN.out _ hT0).mono ?_);rintro e w4 ⟨v4,rfl,hr_,hB5⟩;obtain ⟨A4,c4,hv_,hc_,hC_⟩:=Kd.R_reads hr_;subst hv_;have HC4:=am hC_;replace hR3:=rangeAt_below hR3 hB5 hZ3;replace hT0:=below_step hT0 hB5;replace hZ3:=Nat.lt_of_lt_of_le hZ3 hB5.size;replace hR4:=rangeAt_below hR4 hB5 hZ4;replace hZ4:=Nat.lt_of_lt_of_le hZ4 hB5.size;clear hB5;clear hr_ hc_ hC_))
  | (go_at_call 20;go_loud ((with_reducible refine (HER.out _ hT0).mono ?_);rintro e w5 ⟨v5,rfl,hr_,hB5⟩;obtain ⟨A5,c5,hv_,hc_,hC_⟩:=Kd.R_reads hr_;subst hv_;have HC5:=am hC_;have HC45:=am (Kd.C_below HC4.out hB5);replace hR3:=rangeAt_below hR3 hB5 hZ3;replace hT0:=below_step hT0 hB5;replace hZ3:=Nat.lt_of_lt_of_le hZ3 hB5.size;replace hR4:=rangeAt_below hR4 hB5 hZ4;replace hZ4:=Nat.lt_of_lt_of_le hZ4 hB5.size;clear hB5;clear hr_ hc_ hC_)))
 have HR35:=am hR3;have HR45:=am hR4;have HZ5 : Aside0 (g3 < w5.heap.size ∧ g4 < w5.heap.size):=⟨hZ3,hZ4⟩;have HT5:=am hT0;clear hR3 hR4 hZ3 hZ4 hT0 d1 d2 d3 d4
 go_upto_region 6 with (first
  | ((with_reducible refine gate_dst (N:=41) rfl ?_);refine Kd.R_lit (Kd.int .u8) (w0:=w5) w5.heap.size 5 ?hg (N:=41) ?hd (xs:=([] : List Int)) (inner:=[]) (ok:=fun _=>True) (okp:=fun _=>True) ?hr ?hp (fun _ hk=>hk) trivial (Below.refl _ _) (Nat.le_refl _) (by simp) ?_;(case hd=>rfl);(case hg=>rfl);(case hr=>first | (go_simp;done) | (go_simp;rfl));(case hp=>exact (Reps.none _ _));intro v8 w8 ho_ hb_ hg_ hnew_;clear hg_ hnew_;have HR8:=am ho_;have HB8:=am hb_;clear ho_ hb_)
  | ((with_reducible refine gate_builtin (b:= .append) (xs:=#[.tmp 41,.tmp 42]) rfl ?_);at_builtin;refine Kd.R_append_rows (Kd.int .u8) (w0:=w5) w5.heap.size rfl (.tmp 41) (.tmp 42) 38 5 (.int .u8 0) 1 rfl Try.underlying38 info_u8z rfl (by decide) (by omega) _ [] m _ _ _ (fun _=>True) (fun _=>False) rfl rfl HR8.out (Kd.C_below HM.out (below_step HT5.out HB8.out)) (fun _ _ h=>h) (fun _ h=>h.elim) (fun _ _=>trivial) HB8.out HB8.out.size (by simp;omega) ?_;intro v9 w9 ho_ hb_ hg_ hat_;clear hg_ hat_;rw [List.nil_append] at ho_;have HB9:=am hb_;obtain ⟨A9,c9,hv_,hc_,hC_⟩:=Kd.R_reads ho_;subst hv_;have Hc9:=am hc_;have HC9:=am hC_;clear ho_ hb_ hc_ hC_)
  | (go_at_call 21;go_loud (have hd_:=decodeExt_calls A9 c9 m w9 HC9.out Hc9.out HMB.out (by omega);(with_reducible refine hd_.mono ?_);clear hd_;rintro e w10 ⟨⟨x',A11,c11,he_,hx_,hC_,hc_,hxx_⟩,hb_⟩;rw [HXD.out] at hxx_;rw [HED.out] at he_;rw [hxx_] at he_ hx_ hC_ hc_;subst he_;clear hxx_;obtain ⟨L11,hL_⟩ : ∃ L,L = xd.cells A11 c11:=⟨_,rfl⟩;rw [← hL_];have HL11:=am hL_;have HCL11:=am hC_;have HcL11:=am hc_;have BDL11:=am hb_;have HL11l : Aside0 (L11.length = 49):=⟨by rw [hL_];exact Ext.cells_length _ _ _ hx_⟩;have HL11o : Aside0 (∀ v ∈ L11,v.oneCell' = true):=⟨by rw [hL_];exact Ext.cells_one _ _ _⟩;clear hx_ hC_ hc_ hb_ hL_))
  | ((with_reducible refine gate_dst (N:=11) rfl ?_);refine box_event ?hg (N:=11) ?hd (cs:=Z.toArray) (t:=33) ?hr ?_;(case hd=>rfl);(case hg=>rfl);(case hr=>first | (simp [execOp,Instr.alloc,HAL.out,newVar,newRow,go_sem];done) | (simp [execOp,Instr.alloc,HAL.out,newVar,newRow,go_sem];rfl));intro g11 hg_ w11 hbox_ hb_;have h11_ : Lies w11 g11 Z:=Lies.box hbox_;have LB11:=am h11_;have G11:=am hg_;have BN11:=am hb_;clear h11_ hg_ hbox_ hb_)
  | ((with_reducible refine gate_store (t:=33) (p:=11) rfl ?_);refine wpList_store_mid rfl 33 _ _ rfl g11 0 L11.toArray rfl rfl (by rw [List.size_toArray,HL11l.out,← HZl.out];exact LB11.out.there) (by rw [List.size_toArray,HL11l.out];exact info_ext') (all_oneCell_toArray HL11o.out) ?_))
 have e_:=G11.out;have z_:=(below_step (HB9.out.trans (BDL11.out.mono HB9.out.size)) BN11.out).size;have b_ : Below w5.heap.size w5 (w11.setCells g11 0 L11):=below_setCells' g11 (by have:=BN11.out.size;have zz:=(HB9.out.trans (BDL11.out.mono HB9.out.size)).size;omega) L11 0 w11 (below_step (HB9.out.trans (BDL11.out.mono HB9.out.size)) BN11.out)
 have n_ : Lies (w11.setCells g11 0 L11) g11 L11:=by have:=LB11.out.splice 0 L11 (by rw [HL11l.out,HZl.out];decide);rwa [List.take_zero,List.nil_append,List.drop_of_length_le (by rw [HL11l.out,HZl.out];decide),List.append_nil] at this
 have C_ : Kd.C k25 (w11.setCells g11 0 L11) A11 xd.call.f3.length xd.call.f3:=Kd.C_below HCL11.out (below_setCells' (B:=w10.heap.size) g11 (by omega) L11 0 w11 BN11.out);generalize World.setCells _ _ _ _ = w12 at b_ n_ C_ ⊢;have BZ11:=am b_;have LZ11:=am n_;have CZ11:=am C_;clear e_ z_ b_ n_ C_;have HM12:=am (Kd.C_below HM.out (below_step HT5.out BZ11.out))
 go_upto_region 7 with (first
  | (go_at_call 22;go_loud (have hd_:=refDecodeExt_calls A2 c2 m w12 HM12.out HMC.out HMB.out (by omega);(with_reducible refine hd_.mono ?_);clear hd_;rintro e w13 ⟨⟨x',A13,c13,he_,hx_,hC_,hc_,hxx_⟩,hb_⟩;rw [HXD.out] at hxx_;rw [HED.out] at he_;rw [hxx_] at he_ hx_ hC_ hc_;subst he_;clear hxx_;obtain ⟨L13,hL_⟩ : ∃ L,L = xd.cells A13 c13:=⟨_,rfl⟩;rw [← hL_];have HL13:=am hL_;have HCL13:=am hC_;have HcL13:=am hc_;have BDL13:=am hb_;have HL13l : Aside0 (L13.length = 49):=⟨by rw [hL_];exact Ext.cells_length _ _ _ hx_⟩;have HL13o : Aside0 (∀ v ∈ L13,v.oneCell' = true):=⟨by rw [hL_];exact Ext.cells_one _ _ _⟩;clear hx_ hC_ hc_ hb_ hL_))
  | ((with_reducible refine gate_dst (N:=13) rfl ?_);refine box_event ?hg (N:=13) ?hd (cs:=Z.toArray) (t:=33) ?hr ?_;(case hd=>rfl);(case hg=>rfl);(case hr=>first | (simp [execOp,Instr.alloc,HAL.out,newVar,newRow,go_sem];done) | (simp [execOp,Instr.alloc,HAL.out,newVar,newRow,go_sem];rfl));intro g13 hg_ w14 hbox_ hb_;have h11_ : Lies w14 g13 Z:=Lies.box hbox_;have LB13:=am h11_;have G13:=am hg_;have BN13:=am hb_;clear h11_ hg_ hbox_ hb_)
  | ((with_reducible refine gate_store (t:=33) (p:=13) rfl ?_);refine wpList_store_mid rfl 33 _ _ rfl g13 0 L13.toArray rfl rfl (by rw [List.size_toArray,HL13l.out,← HZl.out];exact LB13.out.there) (by rw [List.size_toArray,HL13l.out];exact info_ext') (all_oneCell_toArray HL13o.out) ?_))
 have e_:=G13.out;have z_:=(below_step BDL13.out BN13.out).size;have b_ : Below w12.heap.size w12 (w14.setCells g13 0 L13):=below_setCells' g13 (by have:=BN13.out.size;have zz:=(BDL13.out).size;omega) L13 0 w14 (below_step BDL13.out BN13.out)
 have n_ : Lies (w14.setCells g13 0 L13) g13 L13:=by have:=LB13.out.splice 0 L13 (by rw [HL13l.out,HZl.out];decide);rwa [List.take_zero,List.nil_append,List.drop_of_length_le (by rw [HL13l.out,HZl.out];decide),List.append_nil] at this
 have C_ : Kd.C k25 (w14.setCells g13 0 L13) A13 xd.call.f3.length xd.call.f3:=Kd.C_below HCL13.out (below_setCells' (B:=w13.heap.size) g13 (by omega) L13 0 w14 BN13.out);generalize World.setCells _ _ _ _ = w15 at b_ n_ C_ ⊢;have BZ13:=am b_;have LZ13:=am n_;have CZ13:=am C_;clear e_ z_ b_ n_ C_;obtain ⟨SX,hSX⟩ : ∃ P,P = Held g3 g4 g11 g13 L LO L11 L13 (.slice A4 p.length c4) (.slice A5 p.length c5) p:=⟨_,rfl⟩;have h5_:=below_step BZ11.out BZ13.out;have hZ12 : g11 < w12.heap.size:=LZ11.out.lt (by rw [HL11l.out];decide)
 have HSB : Aside0 (∀ w,Below W.heap.size W w ∧ Below w15.heap.size w15 w → SX w):=⟨fun w ⟨_,hb⟩=>by
  have hb5:=below_step h5_ hb;have hb12:=below_step BZ13.out hb;rw [hSX]
  exact ⟨rangeAt_below HR35.out hb5 HZ5.out.1,rangeAt_below HR45.out hb5 HZ5.out.2,rangeAt_below LZ11.out.range hb12 hZ12,rangeAt_below LZ13.out.range hb (LZ13.out.lt (by rw [HL13l.out];decide)),
   Kd.C_string (P:=Try.prog) (A:=A4) (c:=c4) Try.underlying38 Try.underlying5 Try.underlying9 (Kd.C_below HC45.out hb5),Kd.C_string (P:=Try.prog) (A:=A5) (c:=c5) Try.underlying38 Try.underlying5 Try.underlying9 (Kd.C_below HC5.out hb5)⟩⟩
 have HSV : Aside0 (∀ w,SX w → Held g3 g4 g11 g13 L LO L11 L13 (.slice A4 p.length c4) (.slice A5 p.length c5) p w):=⟨fun w h=>by rw [← hSX];exact h⟩
 -- region 7
 have HB0 : Aside0 (Below W.heap.size W w15.drew ∧ Below w15.heap.size w15 w15.drew):=⟨below_drew (below_step HT5.out h5_),below_drew (Below.refl _ _)⟩;have HS0:=am (HSB.out _ HB0.out)
 have HC13 : Aside0 (∀ w,Below W.heap.size W w ∧ Below w15.heap.size w15 w → Calls Try.prog 23 #[.agg L11.toArray,.agg L13.toArray] w fun e w'=>e = .returned (.bool true) ∧ Below w.heap.size w w'):=⟨fun w ⟨_,hb⟩=>by
  obtain ⟨f,hf⟩:=fits_kids w12 xd.call A11 CZ11.out;have:=refSameExt_calls f xd xd A11 A13 c11 c13 true w H32.out H32.out (Kd.C_below CZ11.out (below_step BZ13.out hb)) HcL11.out (Kd.C_below CZ13.out hb) HcL13.out hf (same_self_F f xd.call hf);rw [sameX_self] at this;rw [HL11.out,HL13.out]
  exact this⟩
 clear hSX h5_ hZ12;have dse : (errE e0 == errE e0) = true:=beq_self_eq_true _;have dsd : (ed == ed) = true:=beq_self_eq_true _;have dsb : (bs == bs) = true:=beq_self_eq_true _;have ds0 : (e0 == e0) = true:=beq_self_eq_true _
 go_upto_region 7 with (fail)
 refine start_ (n:=45) (S:=SX) (ds:=[]) (bl 45 0) (by kernel_rfl) rfl rfl HS0.out (fun hHeld=>?_);refine with_tabW exts_r7.tab exts_r7.bits (fun HT_ HW_=>?_);refine p_ HT_ 0 (some 52) exts_r7.l0 ?_;refine tk HT_ HW_ hHeld 1 (some 53) exts_r7.l1 (hr:=by intro w' hs_;have k1_:=(HSV.out _ hs_).2.2.2.2.1;go_simp;with_reducible rfl) (h:=?_);refine p_ HT_ 2 (some 54) exts_r7.l2 ?_;refine tk HT_ HW_ hHeld 3 (some 55) exts_r7.l3 (hr:=by intro w' hs_;have k2_:=(HSV.out _ hs_).2.2.2.2.2;go_simp;with_reducible rfl) (h:=?_);refine p_ HT_ 4 (some 56) exts_r7.l4 ?_;refine p_ HT_ 5 (some 57) exts_r7.l5 ?_;refine p_ HT_ 6 (some 58) exts_r7.l6 ?_;refine p_ HT_ 7 (some 59) exts_r7.l7 ?_;refine p_ HT_ 8 (some 60) exts_r7.l8 ?_;refine p_ HT_ 9 (some 61) exts_r7.l9 ?_;refine p_ HT_ 10 (some 62) exts_r7.l10 ?_;refine tk HT_ HW_ hHeld 11 (some 63) exts_r7.l11 (hr:=by intro w' hs_;exact load_runO' (ty:=33) (y:= .tmp 11) (g:=g11) (off:=0) (L:=L11) rfl rfl (HSV.out _ hs_).2.2.1 Try.underlying33 rfl (by rw [HL11l.out];exact info_ext')) (h:=?_);refine tk HT_ HW_ hHeld 12 (some 64) exts_r7.l12 (hr:=by intro w' hs_;exact load_runO' (ty:=33) (y:= .tmp 13) (g:=g13) (off:=0) (L:=L13) rfl rfl (HSV.out _ hs_).2.2.2.1 Try.underlying33 rfl (by rw [HL13l.out];exact info_ext')) (h:=?_);refine o_ HT_ 13 (some 65) exts_r7.l13 fun K hK=>?_;refine gs Try.func23 #[.agg L11.toArray,.agg L13.toArray] ?_;refine (HC13.out _ HB0.out).mono ?_;rintro e u13 ⟨rfl,hb_⟩;have HB13 : Aside0 (Below W.heap.size W u13 ∧ Below w15.heap.size w15 u13):=⟨below_step HB0.out.1 hb_,below_step HB0.out.2 hb_⟩;clear hb_;refine ⟨_,rfl,?_⟩;refine hK.out _ _ (HSB.out _ HB13.out) (fun hHeld=>?_);clear hK K;refine nm (some 65) ?_;refine p_ HT_ 14 (some 66) exts_r7.l14 ?_;refine p_ HT_ 15 (some 67) exts_r7.l15 ?_;refine p_ HT_ 16 (some 68) exts_r7.l16 ?_;refine p_ HT_ 17 (some 69) exts_r7.l17 ?_;refine p_ HT_ 18 (some 70) exts_r7.l18 ?_;refine p_ HT_ 19 (some 71) exts_r7.l19 ?_;refine p_ HT_ 20 (some 72) exts_r7.l20 ?_;refine tk HT_ HW_ hHeld 21 (some 73) exts_r7.l21 (hr:=by intro w' hs_;exact load_runO' (ty:=33) (y:= .tmp 3) (g:=g3) (off:=0) (L:=L) rfl rfl (HSV.out _ hs_).1 Try.underlying33 rfl (by rw [HLl.out];exact info_ext')) (h:=?_);refine tk HT_ HW_ hHeld 23 (some 75) exts_r7.l22 (hr:=by intro w' hs_;exact load_runO' (ty:=33) (y:= .tmp 3) (g:=g3) (off:=0) (L:=L) rfl rfl (HSV.out _ hs_).1 Try.underlying33 rfl (by rw [HLl.out];exact info_ext')) (h:=?_);refine o_ HT_ 22 (some 74) exts_r7.l23 fun K hK=>?_;refine gs Try.func14 #[.agg L.toArray] ?_;refine (HC22.out _ HB13.out.1).mono ?_;rintro e u22 ⟨rfl,hb_⟩;have HB22 : Aside0 (Below W.heap.size W u22 ∧ Below w15.heap.size w15 u22):=⟨below_step HB13.out.1 hb_,below_step HB13.out.2 hb_⟩;clear hb_;refine ⟨_,rfl,?_⟩;refine hK.out _ _ (HSB.out _ HB22.out) (fun hHeld=>?_);clear hK K;refine nm (some 74) ?_;refine o_ HT_ 24 (some 76) exts_r7.l24 fun K hK=>?_;refine gs Try.func13 #[.agg L.toArray] ?_;refine (HC24.out _ HB22.out.1).mono ?_;rintro e u24 ⟨rfl,hb_⟩;have HB24 : Aside0 (Below W.heap.size W u24 ∧ Below w15.heap.size w15 u24):=⟨below_step HB22.out.1 hb_,below_step HB22.out.2 hb_⟩;clear hb_;refine ⟨_,rfl,?_⟩;refine hK.out _ _ (HSB.out _ HB24.out) (fun hHeld=>?_);clear hK K;refine nm (some 76) ?_;refine p_ HT_ 25 (some 77) exts_r7.l25 ?_;refine p_ HT_ 26 (some 78) exts_r7.l26 ?_;refine p_ HT_ 27 (some 79) exts_r7.l27 ?_;refine tk HT_ HW_ hHeld 28 (some 80) exts_r7.l28 (hr:=by intro w' hs_;exact load_runO' (ty:=33) (y:= .tmp 3) (g:=g3) (off:=0) (L:=L) rfl rfl (HSV.out _ hs_).1 Try.underlying33 rfl (by rw [HLl.out];exact info_ext')) (h:=?_);refine tk HT_ HW_ hHeld 29 (some 81) exts_r7.l29 (hr:=by intro w' hs_;exact load_runO' (ty:=33) (y:= .tmp 4) (g:=g4) (off:=0) (L:=LO) rfl rfl (HSV.out _ hs_).2.1 Try.underlying33 rfl (by rw [HLOl.out];exact info_ext')) (h:=?_)
 refine tk HT_ HW_ hHeld 31 (some 83) exts_r7.l30 (hr:=by intro w' hs_;exact load_runO' (ty:=33) (y:= .tmp 3) (g:=g3) (off:=0) (L:=L) rfl rfl (HSV.out _ hs_).1 Try.underlying33 rfl (by rw [HLl.out];exact info_ext')) (h:=?_);refine tk HT_ HW_ hHeld 32 (some 84) exts_r7.l31 (hr:=by intro w' hs_;exact load_runO' (ty:=33) (y:= .tmp 4) (g:=g4) (off:=0) (L:=LO) rfl rfl (HSV.out _ hs_).2.1 Try.underlying33 rfl (by rw [HLOl.out];exact info_ext')) (h:=?_);refine o_ HT_ 30 (some 82) exts_r7.l32 fun K hK=>?_;refine gs Try.func24 #[.agg L.toArray,.agg LO.toArray] ?_;refine (HC30.out _ HB24.out.1).mono ?_;rintro e u30 ⟨rfl,hb_⟩;have HB30 : Aside0 (Below W.heap.size W u30 ∧ Below w15.heap.size w15 u30):=⟨below_step HB24.out.1 hb_,below_step HB24.out.2 hb_⟩;clear hb_;refine ⟨_,rfl,?_⟩;refine hK.out _ _ (HSB.out _ HB30.out) (fun hHeld=>?_);clear hK K;refine nm (some 82) ?_;refine o_ HT_ 33 (some 85) exts_r7.l33 fun K hK=>?_;refine gs Try.func23 #[.agg L.toArray,.agg LO.toArray] ?_;refine (HC33.out _ HB30.out.1).mono ?_;rintro e u33 ⟨rfl,hb_⟩;have HB33 : Aside0 (Below W.heap.size W u33 ∧ Below w15.heap.size w15 u33):=⟨below_step HB30.out.1 hb_,below_step HB30.out.2 hb_⟩;clear hb_;refine ⟨_,rfl,?_⟩;refine hK.out _ _ (HSB.out _ HB33.out) (fun hHeld=>?_);clear hK K;refine nm (some 85) ?_;refine p_ HT_ 34 (some 86) exts_r7.l34 ?_;refine p_ HT_ 35 (some 87) exts_r7.l35 ?_;refine p_ HT_ 36 (some 88) exts_r7.l36 ?_;refine tk HT_ HW_ hHeld 37 (some 89) exts_r7.l37 (hr:=by intro w' hs_;exact load_runO' (ty:=33) (y:= .tmp 3) (g:=g3) (off:=0) (L:=L) rfl rfl (HSV.out _ hs_).1 Try.underlying33 rfl (by rw [HLl.out];exact info_ext')) (h:=?_);refine tk HT_ HW_ hHeld 38 (some 90) exts_r7.l38 (hr:=by intro w' hs_;exact load_runO' (ty:=33) (y:= .tmp 3) (g:=g3) (off:=0) (L:=L) rfl rfl (HSV.out _ hs_).1 Try.underlying33 rfl (by rw [HLl.out];exact info_ext')) (h:=?_);refine o_ HT_ 39 (some 91) exts_r7.l39 fun K hK=>?_;refine gs Try.func24 #[.agg L.toArray,.agg L.toArray] ?_;refine (HC39.out _ HB33.out.1).mono ?_;rintro e u39 ⟨rfl,hb_⟩;have HB39 : Aside0 (Below W.heap.size W u39 ∧ Below w15.heap.size w15 u39):=⟨below_step HB33.out.1 hb_,below_step HB33.out.2 hb_⟩;clear hb_;refine ⟨_,rfl,?_⟩;refine hK.out _ _ (HSB.out _ HB39.out) (fun hHeld=>?_);clear hK K;refine nm (some 91) ?_;refine p_ HT_ 40 (some 92) exts_r7.l40 ?_;refine p_ HT_ 41 (some 93) exts_r7.l41 ?_;refine o_ HT_ 42 (some 94) exts_r7.l42 fun K hK=>?_;refine gs Try.func10 #[] ?_;refine (HC42.out _ HB39.out.1).mono ?_;rintro e u42 ⟨rfl,hb_⟩;have HB42 : Aside0 (Below W.heap.size W u42 ∧ Below w15.heap.size w15 u42):=⟨below_step HB39.out.1 hb_,below_step HB39.out.2 hb_⟩;clear hb_;refine ⟨_,rfl,?_⟩;refine hK.out _ _ (HSB.out _ HB42.out) (fun hHeld=>?_);clear hK K;refine nm (some 94) ?_;refine p_ HT_ 43 (some 95) exts_r7.l43 ?_;refine p_ HT_ 44 (some 6) exts_r7.l44 ?_;refine done_ (done_of HT_.out (by kernel_rfl)) ?_;clear HT_ HW_ hHeld
 go_wp2
 go_ret
 exact ⟨rfl,HB42.out.1⟩
set_option maxRecDepth 100000 in
theorem walks : Walks 7 Try.f7:=by
 intro H enc W base args ds ps hval hA _ _ _;rw [Try.params7] at hA hval;obtain ⟨v0,v1,v2,d0,d1,d2,p0,p1,p2,rfl,rfl,rfl,h0,h1,h2⟩:=trodAll_three hA;obtain ⟨A0,c0,x,rfl,hx,hC,hc⟩:=ArgCall.open_ext (hval 0 33 v0 rfl rfl) h0;obtain ⟨A1,c1,o,rfl,ho,hD,hd⟩:=ArgCall.open_ext (hval 1 33 v1 rfl rfl) h1;obtain ⟨A2,len,cap,l,rfl,⟨hm,hmc⟩,rfl,hmb⟩:=ArgBytes.open_bytes (hval 2 38 v2 rfl rfl) h2;exact walk x A0 c0 o A1 c1 A2 cap l W hx hC hc ho hD hd hm hmc hmb
set_option maxRecDepth 100000 in
theorem rowed (os : Os) (started : os.Started) (H : Type) (enc : TypeId × Value → H) :
 ReturnsInHanded {} Try.checked os 7 .any (Rows.codeExtsSpec.pre6 enc Try.prog Try.f7 Rows.codeExtsRow.domain false) (Rows.codeExtsSpec.post enc Try.prog Try.f7 false true false false):=
 lifted (s:=Rows.codeExtsSpec) Try.func7 (by kernel_rfl) (by kernel_rfl) (by kernel_rfl) (by kernel_rfl) rfl
  (fun H ds h=>by
   have h' : ds.length = 3:=h
   match ds,h' with
   | [d1,d2,d3],_=>rfl)
  os started H enc
  (ChangeSpec.witness6 (enc:=enc) (C:=Try.checked) false ⟨#[],#[.agg ((ext0 0 0).cells none 0).toArray,.agg ((ext0 0 0).cells none 0).toArray,.slice none 0 0],[]⟩ 8 (by kernel_rfl) (by kernel_rfl) (by kernel_rfl) (by kernel_rfl)) walks
theorem over : Rows.codeExtsRow.holds Try.pinned (OpenSpec.ofChange Rows.codeExtsSpec):=
 OpenClaim.holds_of_wide 7 Try.f7 rfl rfl rfl rfl rfl rfl rfl ⟨rfl,rfl,rfl,rfl,rfl⟩ rfl rfl rfl rfl rfl (by kernel_rfl) Try.func7 (by kernel_rfl)
  (of_decide_eq_true (by kernel_rfl)) (by unfold Func.isWrapper;first | (rw [if_pos (by decide +kernel)];kernel_rfl) | (rw [if_neg (by decide +kernel)];exact ⟨rfl,rfl⟩))
  (fun os started H enc _=>rowed os started H enc)
end Go.Proofs.Ytilckocpgififaa.LawCodeExts
namespace Go.Proofs.Ytilckocpgififaa
theorem codeExts_holds : Rows.CodeExtsSaid:=LawCodeExts.over
end Go.Proofs.Ytilckocpgififaa
