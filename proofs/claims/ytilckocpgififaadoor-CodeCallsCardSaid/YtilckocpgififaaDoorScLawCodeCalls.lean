/- CodeCalls: any call as bytes, or refused; any bytes as a call, or refused; any two whether they are one. For all calls, all bytes (laid by mkcalls.py). -/
import Derived.Test.YtilckocpgififaaDoorScHStep
import Derived.Test.YtilckocpgififaaDoorScHSameCall
import Derived.Test.YtilckocpgififaaDoorScHKnown
import Derived.Test.YtilckocpgififaaDoorScArgCall
import Derived.Test.YtilckocpgififaaDoorScArgBytes
import Derived.Test.YtilckocpgififaaDoorScPSame
namespace Go.Proofs.YtilckocpgififaaDoor.LawCodeCalls
set_option linter.unusedSimpArgs false
set_option linter.unusedVariables false
open Go.ChangeShapes Go.WideShapes Go.ChangeAt Go.RowKit Go.Proofs.YtilckocpgififaaDoor.G Go.Proofs.YtilckocpgififaaDoor.PNum Go.Proofs.YtilckocpgififaaDoor.Frame Go.Proofs.YtilckocpgififaaDoorW.PrintWords Go.Proofs.YtilckocpgififaaDoorW.PrintLast Go.Proofs.YtilckocpgififaaDoorW.PrintMore
def calls_r7.T : Bool × List (List Nat × List Nat):=(true,[([],[]),([0],[0]),([],[]),([2],[2]),([1,3],[1,3]),([4],[4]),([5],[5]),([5],[5]),([6,7,5],[5,6,7]),([5,8],[5,8]),([9,5],[9]),([10],[10]),([10],[10]),([11,12,10,10],[10,11,12]),([10,13],[10,13]),([14,13],[14]),([15],[15]),([15],[15]),([16,17,15],[15,16,17]),([15,18],[15,18]),([19,15],[19]),([20],[20]),([21,20,20],[20,21]),([20],[20]),([23,22,20],[20,23]),([22,24,20],[20,22,24]),([20,25],[20,25]),([26,24],[26]),([27],[27]),([27],[27]),([28,29,27,27],[27,28,29]),([27],[27]),([27],[27]),([31,32,30,27],[27,31,32]),([30,33,27],[27,30,33]),([27,34],[27,34]),([35,33],[35]),([36],[36]),([36],[36]),([37,38,36,36],[36,37,38]),([36,39],[36,39]),([40,39],[40]),([41],[41]),([42,41,41],[41,42]),([41],[41]),([44,43,41],[41,44]),([43,45,41],[41,43,45]),([41,46],[41,46]),([47,45],[47]),([48,48],[48]),([48,49],[48,49]),([50,49,0,1,2,3,4,5,6,7,8,9,10,11,12,13,14,15,16,17,18,19,20,21,22,23,24,25,26,27,28,29,30,31,32,33,34,35,36,37,38,39,40,41,42,43,44,45,46,47,48,49,50],[50])])
def calls_r7.B : List Nat:=[0,1,0,4,15,31,63,63,255,511,1023,2047,2047,8191,16383,32767,65535,65535,262143,524287,1048575,2097151,4194303,2097151,16777215,33554431,67108863,134217727,268435455,268435455,1073741823,268435455,268435455,8589934591,17179869183,34359738367,68719476735,137438953471,137438953471,549755813887,1099511627775,2199023255551,4398046511103,8796093022207,4398046511103,35184372088831,70368744177663,140737488355327,281474976710655,562949953421311,1125899906842623,2251799813685247]
theorem calls_r7.tab : rtab .any (opsOf Tryd.f4 7) = calls_r7.T:=by kernel_rfl
theorem calls_r7.bits : waitsOk calls_r7.T.2 calls_r7.B = true:=by kernel_rfl
def calls_r7.l0 : Array Bool:=bl 52 1
def calls_r7.l1 : Array Bool:=bl 52 3
def calls_r7.l2 : Array Bool:=bl 52 7
def calls_r7.l3 : Array Bool:=bl 52 15
def calls_r7.l4 : Array Bool:=bl 52 31
def calls_r7.l5 : Array Bool:=bl 52 63
def calls_r7.l6 : Array Bool:=bl 52 127
def calls_r7.l7 : Array Bool:=bl 52 255
def calls_r7.l8 : Array Bool:=bl 52 511
def calls_r7.l9 : Array Bool:=bl 52 1023
def calls_r7.l10 : Array Bool:=bl 52 2047
def calls_r7.l11 : Array Bool:=bl 52 4095
def calls_r7.l12 : Array Bool:=bl 52 8191
def calls_r7.l13 : Array Bool:=bl 52 16383
def calls_r7.l14 : Array Bool:=bl 52 32767
def calls_r7.l15 : Array Bool:=bl 52 65535
def calls_r7.l16 : Array Bool:=bl 52 131071
def calls_r7.l17 : Array Bool:=bl 52 262143
def calls_r7.l18 : Array Bool:=bl 52 524287
def calls_r7.l19 : Array Bool:=bl 52 1048575
def calls_r7.l20 : Array Bool:=bl 52 2097151
def calls_r7.l21 : Array Bool:=bl 52 4194303
def calls_r7.l22 : Array Bool:=bl 52 12582911
def calls_r7.l23 : Array Bool:=bl 52 16777215
def calls_r7.l24 : Array Bool:=bl 52 33554431
def calls_r7.l25 : Array Bool:=bl 52 67108863
def calls_r7.l26 : Array Bool:=bl 52 134217727
def calls_r7.l27 : Array Bool:=bl 52 268435455
def calls_r7.l28 : Array Bool:=bl 52 536870911
def calls_r7.l29 : Array Bool:=bl 52 1073741823
def calls_r7.l30 : Array Bool:=bl 52 3221225471
def calls_r7.l31 : Array Bool:=bl 52 7516192767
def calls_r7.l32 : Array Bool:=bl 52 8589934591
def calls_r7.l33 : Array Bool:=bl 52 17179869183
def calls_r7.l34 : Array Bool:=bl 52 34359738367
def calls_r7.l35 : Array Bool:=bl 52 68719476735
def calls_r7.l36 : Array Bool:=bl 52 137438953471
def calls_r7.l37 : Array Bool:=bl 52 274877906943
def calls_r7.l38 : Array Bool:=bl 52 549755813887
def calls_r7.l39 : Array Bool:=bl 52 1099511627775
def calls_r7.l40 : Array Bool:=bl 52 2199023255551
def calls_r7.l41 : Array Bool:=bl 52 4398046511103
def calls_r7.l42 : Array Bool:=bl 52 8796093022207
def calls_r7.l43 : Array Bool:=bl 52 26388279066623
def calls_r7.l44 : Array Bool:=bl 52 35184372088831
def calls_r7.l45 : Array Bool:=bl 52 70368744177663
def calls_r7.l46 : Array Bool:=bl 52 140737488355327
def calls_r7.l47 : Array Bool:=bl 52 281474976710655
def calls_r7.l48 : Array Bool:=bl 52 562949953421311
def calls_r7.l49 : Array Bool:=bl 52 1125899906842623
def calls_r7.l50 : Array Bool:=bl 52 2251799813685247
def calls_r7.l51 : Array Bool:=bl 52 4503599627370495
theorem info_u8zz : (Tryd.prog.info? 5).map (fun i=>(i.zero,i.size,i.bytes)) = some (some (.int .u8 0),1,1):=by kernel_rfl
theorem same_some (f : Nat) (a b : S24) (h : Fits f a) : ∃ r,sameF f a b = some r:=by
 obtain ⟨K,r,h1,_⟩:=rsame f a b h;exact ⟨r,h1⟩
theorem allM_self {p : S24 → S24 → Option Bool} : ∀ (l : List S24),(∀ x ∈ l,p x x = some true) → allM p l l = some true
 | [],_=>rfl
 | x :: l,h=>by
   rw [allM,h x List.mem_cons_self,Option.bind_some,if_pos rfl];exact allM_self l (fun y hy=>h y (List.mem_cons_of_mem _ hy))
theorem same_self : ∀ (f : Nat) (c : S24),Fits f c → sameF f c c = some true
 | 0,_,h=>h.elim
 | f + 1,c,h=>by
   rw [sameF,if_pos ⟨rfl,rfl,rfl,rfl⟩];exact allM_self _ (fun x hx=>same_self f x (h.2 x hx))
def Held (g3 g4 g11 g13 : Nat) (L LO L11 L13 : List Value) (vp vq : Value) (p : List Int) (w : World) : Prop:=
 w.rangeAt g3 0 L ∧ w.rangeAt g4 0 LO ∧ w.rangeAt g11 0 L11 ∧ w.rangeAt g13 0 L13 ∧ (convert 26 9 vp).run Tryd.prog w = .ok (.string (strOfNums p)) w ∧ (convert 26 9 vq).run Tryd.prog w = .ok (.string (strOfNums p)) w
set_option maxRecDepth 100000 in
set_option maxHeartbeats 32000000 in
theorem walk (x : S24) (A : Option Addr) (c : Nat) (o : S24) (A' : Option Addr) (c' : Nat) (A2 : Option Addr) (c2 : Nat) (m : List Int) (W : World) (hC : Kd.C k24 W A x.f3.length x.f3) (hc : x.f3.length ≤ c)
 (hD : Kd.C k24 W A' o.f3.length o.f3) (hd : o.f3.length ≤ c') (hm : Kd.C (Kd.int .u8) W A2 m.length m) (hmc : m.length ≤ c2) (hmb : IsBytes m) (hT : Spaces W) :
 Calls Tryd.prog 4 #[.agg (callL x A c).toArray,.agg (callL o A' c').toArray,.slice A2 m.length c2] W fun e w'=>e = .returned (.bool true) ∧ Below W.heap.size W w':=by
 obtain ⟨F,hF⟩:=fits_kids W x A hC;obtain ⟨k,r,hs⟩:=size_some F x hF;obtain ⟨G,hG⟩:=fits_kids W o A' hD;obtain ⟨q,r2,hs2⟩:=size_some G o hG;obtain ⟨L,hL⟩ : ∃ L,L = callL x A c:=⟨_,rfl⟩;obtain ⟨LO,hLO⟩ : ∃ L,L = callL o A' c':=⟨_,rfl⟩;obtain ⟨e0,he0⟩ : ∃ b,okT 3 x = b:=⟨_,rfl⟩;obtain ⟨ec,hec⟩ : ∃ b,errC x = b:=⟨_,rfl⟩;obtain ⟨bs,hbs⟩:=same_some F x o hF;obtain ⟨p,hp⟩ : ∃ p,p = bytesC x:=⟨_,rfl⟩;obtain ⟨X,hX⟩ : ∃ X,X = sumV p:=⟨_,rfl⟩
 have heq : ∀ w,(binOp .eql 31 (.agg X.toArray) (.agg X.toArray)).run Tryd.prog w = .ok (.bool true) w:=fun w=>by rw [hX];exact eq_hash _ (keyedL_bytes _ _) (keyedL_length _ _) w
 have HC24 : Aside0 (∀ w,Below W.heap.size W w → Calls Tryd.prog 15 #[.agg L.toArray] w fun e w'=>e = .returned (.bool e0) ∧ Below w.heap.size w w'):=⟨fun w hb=>by rw [hL,← he0];exact althingref7_IsCall.calls 40 _ _ _ A c _ _ w (Kd.C_below hC hb) hc (risCall_tells x 40 (by decide))⟩;have HC22 : Aside0 (∀ w,Below W.heap.size W w → Calls Tryd.prog 14 #[.agg L.toArray] w fun e w'=>e = .returned (.bool e0) ∧ Below w.heap.size w w'):=⟨fun w hb=>by rw [hL,← he0];exact code_IsCall.calls _ _ _ A c _ _ w (Kd.C_below hC hb) hc (isCall_tells x)⟩;have HC30 : Aside0 (∀ w,Below W.heap.size W w → Calls Tryd.prog 16 #[.agg L.toArray,.agg LO.toArray] w fun e w'=>e = .returned (.bool bs) ∧ Below w.heap.size w w'):=⟨fun w hb=>by rw [hL,hLO];exact code_SameCall.calls F x o A A' c c' bs w (Kd.C_below hC hb) hc (Kd.C_below hD hb) hd hbs⟩;have HC33 : Aside0 (∀ w,Below W.heap.size W w → Calls Tryd.prog 13 #[.agg L.toArray,.agg LO.toArray] w fun e w'=>e = .returned (.bool bs) ∧ Below w.heap.size w w'):=⟨fun w hb=>by rw [hL,hLO];exact refSameCall_calls F x o A A' c c' bs w (Kd.C_below hC hb) hc (Kd.C_below hD hb) hd hF hbs⟩
 have HC39 : Aside0 (∀ w,Below W.heap.size W w → Calls Tryd.prog 16 #[.agg L.toArray,.agg L.toArray] w fun e w'=>e = .returned (.bool true) ∧ Below w.heap.size w w'):=⟨fun w hb=>by
  rw [hL]
  exact code_SameCall.calls F x x A A c c true w (Kd.C_below hC hb) hc (Kd.C_below hC hb) hc (same_self F x hF)⟩
 have HC43 : Aside0 (∀ w',Below W.heap.size W w' → Calls Tryd.prog 7 #[.agg L.toArray] w' fun e w''=>e = .returned (.agg X.toArray) ∧ Below w'.heap.size w' w''):=⟨fun w' hb=>by
  rw [hL,hX,hp];exact codeSum_calls x A c w' (Kd.C_below hC hb) hc (hT.below hb)⟩
 have HC45 : Aside0 (∀ w',Below W.heap.size W w' → Calls Tryd.prog 17 #[.agg L.toArray] w' fun e w''=>e = .returned (.agg X.toArray) ∧ Below w'.heap.size w' w''):=⟨fun w' hb=>by
  rw [hL,hX,hp];exact refCodeSum_calls x A c w' (Kd.C_below hC hb) hc⟩
 have HC49 : Aside0 (∀ w,Below W.heap.size W w → Calls Tryd.prog 9 #[] w fun e w'=>e = .returned (.bool true) ∧ Below w.heap.size w w'):=⟨fun w _=>known_calls w⟩;have HSA : Aside0 (∀ w,Below W.heap.size W w → Calls Tryd.prog 5 #[.agg L.toArray] w fun e w'=>e = .returned (.int .i64 r) ∧ Below w.heap.size w w'):=⟨fun w hb=>by rw [hL];exact althinglaw7_size.calls k _ _ _ A c _ _ w (Kd.C_below hC hb) hc hs⟩;have HSO : Aside0 (∀ w,Below W.heap.size W w → Calls Tryd.prog 5 #[.agg LO.toArray] w fun e w'=>e = .returned (.int .i64 r2) ∧ Below w.heap.size w w'):=⟨fun w hb=>by rw [hLO];exact althinglaw7_size.calls q _ _ _ A' c' _ _ w (Kd.C_below hD hb) hd hs2⟩;have HEN : Aside0 (∀ w,Below W.heap.size W w → Calls Tryd.prog 6 #[.agg L.toArray] w fun e w'=>∃ v0 : Value,e = .returned (.tuple #[v0,.int .i64 ec]) ∧ Kd.R (Kd.int .u8) 5 w' w.heap.size (fun _=>True) v0 p ∧ Below w.heap.size w w'):=⟨fun w hb=>by rw [hL,hp,← hec];exact code_EncodeCall.calls 50 _ _ _ A c _ _ _ w (Kd.C_below hC hb) hc (enc_own x)⟩;have HER : Aside0 (∀ w,Below W.heap.size W w → Calls Tryd.prog 10 #[.agg L.toArray] w fun e w'=>∃ v0 : Value,e = .returned (.tuple #[v0,.int .i64 ec]) ∧ Kd.R (Kd.int .u8) 5 w' w.heap.size (fun _=>True) v0 p ∧ Below w.heap.size w w'):=⟨fun w hb=>by rw [hL,hp,← hec];exact althingref7_EncodeCall.calls 200 _ _ _ A c _ _ _ w (Kd.C_below hC hb) hc (enc_ref x)⟩;have HLi : Aside0 ((Tryd.prog.info? 24).map (·.size) = some L.length):=⟨by rw [hL];exact info_call⟩;have HLOi : Aside0 ((Tryd.prog.info? 24).map (·.size) = some LO.length):=⟨by rw [hLO];exact info_call⟩;rw [← hL,← hLO];have HM:=am hm;have HMC:=am hmc;have HMB:=am hmb;have hml : m.length ≤ 9223372036854775807:=hm.2.1;clear hL hLO hC hc hD hd hs hs2 hF hG he0 hec hbs hm hmc hmb hp hX hT
 by_cases h1 : r ≥ 300
 ·have d1 : decide (r ≥ 300) = true:=decide_eq_true h1;clear heq;go_enter Tryd.func4,Tryd.ntmps4
  go_upto_region 1 with (first
   | ((with_reducible refine gate_dst (N:=3) rfl ?_);refine box_event ?hg (N:=3) ?hd (cs:=L.toArray) (t:=24) ?hr ?_;(case hd=>rfl);(case hg=>rfl);(case hr=>first | (go_simp;done) | (go_simp;rfl));intro g3 hg1 w0 hbox1 hb1;have hR3:=rangeAt_box hbox1;have hZ3:=blk_lt hbox1;have hT0:=hb1;clear hg1 hbox1 hb1)
   | ((with_reducible refine gate_dst (N:=4) rfl ?_);refine box_event ?hg (N:=4) ?hd (cs:=LO.toArray) (t:=24) ?hr ?_;(case hd=>rfl);(case hg=>rfl);(case hr=>first | (go_simp;done) | (go_simp;rfl));intro g4 hg1 w1 hbox1 hb1;have hR4:=rangeAt_box hbox1;have hZ4:=blk_lt hbox1;replace hR3:=rangeAt_below hR3 hb1 hZ3;replace hZ3:=Nat.lt_of_lt_of_le hZ3 hb1.size;replace hT0:=below_step hT0 hb1;clear hg1 hbox1 hb1))
  go_wp2_with (first
   | (go_at_call 5;first | ((with_reducible refine (HSA.out _ hT0).mono ?_);rintro e w2 ⟨rfl,hB5⟩;replace hR3:=rangeAt_below hR3 hB5 hZ3;replace hT0:=below_step hT0 hB5;replace hZ3:=Nat.lt_of_lt_of_le hZ3 hB5.size;replace hR4:=rangeAt_below hR4 hB5 hZ4;replace hZ4:=Nat.lt_of_lt_of_le hZ4 hB5.size;clear hB5) | ((with_reducible refine (HSO.out _ hT0).mono ?_);rintro e w3 ⟨rfl,hB5⟩;replace hR3:=rangeAt_below hR3 hB5 hZ3;replace hT0:=below_step hT0 hB5;replace hZ3:=Nat.lt_of_lt_of_le hZ3 hB5.size;replace hR4:=rangeAt_below hR4 hB5 hZ4;replace hZ4:=Nat.lt_of_lt_of_le hZ4 hB5.size;clear hB5))
   | ((with_reducible refine gate_dst (N:=15) rfl ?_);(try (refine gate_guard (by rfl) ?_;dsimp only));refine wpList_load_mid rfl 24 _ rfl g3 0 rfl L _ hR3 Tryd.underlying24 rfl HLi.out ?_)
   | ((with_reducible refine gate_dst (N:=19) rfl ?_);(try (refine gate_guard (by rfl) ?_;dsimp only));refine wpList_load_mid rfl 24 _ rfl g4 0 rfl LO _ hR4 Tryd.underlying24 rfl HLOi.out ?_))
  all_goals go_ret
  all_goals exact ⟨rfl,hT0⟩
 have d1 : decide (r ≥ 300) = false:=decide_eq_false h1
 by_cases h2 : r2 ≥ 300
 ·have d2 : decide (r2 ≥ 300) = true:=decide_eq_true h2;clear heq;go_enter Tryd.func4,Tryd.ntmps4
  go_upto_region 1 with (first
   | ((with_reducible refine gate_dst (N:=3) rfl ?_);refine box_event ?hg (N:=3) ?hd (cs:=L.toArray) (t:=24) ?hr ?_;(case hd=>rfl);(case hg=>rfl);(case hr=>first | (go_simp;done) | (go_simp;rfl));intro g3 hg1 w0 hbox1 hb1;have hR3:=rangeAt_box hbox1;have hZ3:=blk_lt hbox1;have hT0:=hb1;clear hg1 hbox1 hb1)
   | ((with_reducible refine gate_dst (N:=4) rfl ?_);refine box_event ?hg (N:=4) ?hd (cs:=LO.toArray) (t:=24) ?hr ?_;(case hd=>rfl);(case hg=>rfl);(case hr=>first | (go_simp;done) | (go_simp;rfl));intro g4 hg1 w1 hbox1 hb1;have hR4:=rangeAt_box hbox1;have hZ4:=blk_lt hbox1;replace hR3:=rangeAt_below hR3 hb1 hZ3;replace hZ3:=Nat.lt_of_lt_of_le hZ3 hb1.size;replace hT0:=below_step hT0 hb1;clear hg1 hbox1 hb1))
  go_wp2_with (first
   | (go_at_call 5;first | ((with_reducible refine (HSA.out _ hT0).mono ?_);rintro e w2 ⟨rfl,hB5⟩;replace hR3:=rangeAt_below hR3 hB5 hZ3;replace hT0:=below_step hT0 hB5;replace hZ3:=Nat.lt_of_lt_of_le hZ3 hB5.size;replace hR4:=rangeAt_below hR4 hB5 hZ4;replace hZ4:=Nat.lt_of_lt_of_le hZ4 hB5.size;clear hB5) | ((with_reducible refine (HSO.out _ hT0).mono ?_);rintro e w3 ⟨rfl,hB5⟩;replace hR3:=rangeAt_below hR3 hB5 hZ3;replace hT0:=below_step hT0 hB5;replace hZ3:=Nat.lt_of_lt_of_le hZ3 hB5.size;replace hR4:=rangeAt_below hR4 hB5 hZ4;replace hZ4:=Nat.lt_of_lt_of_le hZ4 hB5.size;clear hB5))
   | ((with_reducible refine gate_dst (N:=15) rfl ?_);(try (refine gate_guard (by rfl) ?_;dsimp only));refine wpList_load_mid rfl 24 _ rfl g3 0 rfl L _ hR3 Tryd.underlying24 rfl HLi.out ?_)
   | ((with_reducible refine gate_dst (N:=19) rfl ?_);(try (refine gate_guard (by rfl) ?_;dsimp only));refine wpList_load_mid rfl 24 _ rfl g4 0 rfl LO _ hR4 Tryd.underlying24 rfl HLOi.out ?_))
  all_goals go_ret
  all_goals exact ⟨rfl,hT0⟩
 have d2 : decide (r2 ≥ 300) = false:=decide_eq_false h2
 by_cases h3 : m.length > 1500
 ·have d3 : decide ((m.length : Int) > 1500) = true:=decide_eq_true (by omega);have d4 : decide (1500 < m.length) = true:=decide_eq_true h3;clear heq;go_enter Tryd.func4,Tryd.ntmps4
  go_upto_region 1 with (first
   | ((with_reducible refine gate_dst (N:=3) rfl ?_);refine box_event ?hg (N:=3) ?hd (cs:=L.toArray) (t:=24) ?hr ?_;(case hd=>rfl);(case hg=>rfl);(case hr=>first | (go_simp;done) | (go_simp;rfl));intro g3 hg1 w0 hbox1 hb1;have hR3:=rangeAt_box hbox1;have hZ3:=blk_lt hbox1;have hT0:=hb1;clear hg1 hbox1 hb1)
   | ((with_reducible refine gate_dst (N:=4) rfl ?_);refine box_event ?hg (N:=4) ?hd (cs:=LO.toArray) (t:=24) ?hr ?_;(case hd=>rfl);(case hg=>rfl);(case hr=>first | (go_simp;done) | (go_simp;rfl));intro g4 hg1 w1 hbox1 hb1;have hR4:=rangeAt_box hbox1;have hZ4:=blk_lt hbox1;replace hR3:=rangeAt_below hR3 hb1 hZ3;replace hZ3:=Nat.lt_of_lt_of_le hZ3 hb1.size;replace hT0:=below_step hT0 hb1;clear hg1 hbox1 hb1))
  go_wp2_with (first
   | (go_at_call 5;first | ((with_reducible refine (HSA.out _ hT0).mono ?_);rintro e w2 ⟨rfl,hB5⟩;replace hR3:=rangeAt_below hR3 hB5 hZ3;replace hT0:=below_step hT0 hB5;replace hZ3:=Nat.lt_of_lt_of_le hZ3 hB5.size;replace hR4:=rangeAt_below hR4 hB5 hZ4;replace hZ4:=Nat.lt_of_lt_of_le hZ4 hB5.size;clear hB5) | ((with_reducible refine (HSO.out _ hT0).mono ?_);rintro e w3 ⟨rfl,hB5⟩;replace hR3:=rangeAt_below hR3 hB5 hZ3;replace hT0:=below_step hT0 hB5;replace hZ3:=Nat.lt_of_lt_of_le hZ3 hB5.size;replace hR4:=rangeAt_below hR4 hB5 hZ4;replace hZ4:=Nat.lt_of_lt_of_le hZ4 hB5.size;clear hB5))
   | ((with_reducible refine gate_dst (N:=15) rfl ?_);(try (refine gate_guard (by rfl) ?_;dsimp only));refine wpList_load_mid rfl 24 _ rfl g3 0 rfl L _ hR3 Tryd.underlying24 rfl HLi.out ?_)
   | ((with_reducible refine gate_dst (N:=19) rfl ?_);(try (refine gate_guard (by rfl) ?_;dsimp only));refine wpList_load_mid rfl 24 _ rfl g4 0 rfl LO _ hR4 Tryd.underlying24 rfl HLOi.out ?_))
  all_goals go_ret
  all_goals exact ⟨rfl,hT0⟩
 have d3 : decide ((m.length : Int) > 1500) = false:=decide_eq_false (by omega);have d4 : decide (1500 < m.length) = false:=decide_eq_false h3;obtain ⟨xd,hxd⟩ : ∃ y,(decF m).getD z24 = y:=⟨_,rfl⟩;obtain ⟨ed,hed⟩ : ∃ y,errOf (decF m) = y:=⟨_,rfl⟩;have HXD:=am hxd;have HED:=am hed;obtain ⟨Z,hZ⟩ : ∃ Z,Z = zeroC:=⟨_,rfl⟩;have HZl : Aside0 (Z.length = 4):=⟨by rw [hZ];rfl⟩;have HAL : Aside0 (∀ w,(zeroValue 24).run Tryd.prog w = .ok (.agg Z.toArray) w):=⟨fun w=>by rw [hZ];exact zero_runC w⟩;have HEQ:=am heq;clear hZ hxd hed heq;go_enter Tryd.func4,Tryd.ntmps4
 go_upto_region 1 with (first
  | ((with_reducible refine gate_dst (N:=3) rfl ?_);refine box_event ?hg (N:=3) ?hd (cs:=L.toArray) (t:=24) ?hr ?_;(case hd=>rfl);(case hg=>rfl);(case hr=>first | (go_simp;done) | (go_simp;rfl));intro g3 hg1 w0 hbox1 hb1;have hR3:=rangeAt_box hbox1;have hZ3:=blk_lt hbox1;have hT0:=hb1;clear hg1 hbox1 hb1)
  | ((with_reducible refine gate_dst (N:=4) rfl ?_);refine box_event ?hg (N:=4) ?hd (cs:=LO.toArray) (t:=24) ?hr ?_;(case hd=>rfl);(case hg=>rfl);(case hr=>first | (go_simp;done) | (go_simp;rfl));intro g4 hg1 w1 hbox1 hb1;have hR4:=rangeAt_box hbox1;have hZ4:=blk_lt hbox1;replace hR3:=rangeAt_below hR3 hb1 hZ3;replace hZ3:=Nat.lt_of_lt_of_le hZ3 hb1.size;replace hT0:=below_step hT0 hb1;clear hg1 hbox1 hb1))
 go_upto_region 5 with (first
  | (go_at_call 5;first | ((with_reducible refine (HSA.out _ hT0).mono ?_);rintro e w2 ⟨rfl,hB5⟩;replace hR3:=rangeAt_below hR3 hB5 hZ3;replace hT0:=below_step hT0 hB5;replace hZ3:=Nat.lt_of_lt_of_le hZ3 hB5.size;replace hR4:=rangeAt_below hR4 hB5 hZ4;replace hZ4:=Nat.lt_of_lt_of_le hZ4 hB5.size;clear hB5) | ((with_reducible refine (HSO.out _ hT0).mono ?_);rintro e w3 ⟨rfl,hB5⟩;replace hR3:=rangeAt_below hR3 hB5 hZ3;replace hT0:=below_step hT0 hB5;replace hZ3:=Nat.lt_of_lt_of_le hZ3 hB5.size;replace hR4:=rangeAt_below hR4 hB5 hZ4;replace hZ4:=Nat.lt_of_lt_of_le hZ4 hB5.size;clear hB5))
  | ((with_reducible refine gate_dst (N:=15) rfl ?_);(try (refine gate_guard (by rfl) ?_;dsimp only));refine wpList_load_mid rfl 24 _ rfl g3 0 rfl L _ hR3 Tryd.underlying24 rfl HLi.out ?_)
  | ((with_reducible refine gate_dst (N:=19) rfl ?_);(try (refine gate_guard (by rfl) ?_;dsimp only));refine wpList_load_mid rfl 24 _ rfl g4 0 rfl LO _ hR4 Tryd.underlying24 rfl HLOi.out ?_)
  | ((with_reducible refine gate_dst (N:=29) rfl ?_);refine wpList_load_mid rfl 24 _ rfl g3 0 rfl L _ hR3 Tryd.underlying24 rfl HLi.out ?_)
  | ((with_reducible refine gate_dst (N:=34) rfl ?_);refine wpList_load_mid rfl 24 _ rfl g3 0 rfl L _ hR3 Tryd.underlying24 rfl HLi.out ?_)
  | (go_at_call 6;go_loud ((with_reducible refine (HEN.out _ hT0).mono ?_);rintro e w4 ⟨v4,rfl,hr_,hB5⟩;obtain ⟨A4,c4,hv_,hc_,hC_⟩:=Kd.R_reads hr_;subst hv_;have HC4:=am hC_;replace hR3:=rangeAt_below hR3 hB5 hZ3;replace hT0:=below_step hT0 hB5;replace hZ3:=Nat.lt_of_lt_of_le hZ3 hB5.size;replace hR4:=rangeAt_below hR4 hB5 hZ4;replace hZ4:=Nat.lt_of_lt_of_le hZ4 hB5.size;clear hB5;clear hr_ hc_ hC_))
  | (go_at_call 10;go_loud ((with_reducible refine (HER.out _ hT0).mono ?_);rintro e w5 ⟨v5,rfl,hr_,hB5⟩;obtain ⟨A5,c5,hv_,hc_,hC_⟩:=Kd.R_reads hr_;subst hv_;have HC5:=am hC_;have HCP45:=am (Kd.C_below HC4.out hB5);replace hR3:=rangeAt_below hR3 hB5 hZ3;replace hT0:=below_step hT0 hB5;replace hZ3:=Nat.lt_of_lt_of_le hZ3 hB5.size;replace hR4:=rangeAt_below hR4 hB5 hZ4;replace hZ4:=Nat.lt_of_lt_of_le hZ4 hB5.size;clear hB5;clear hr_ hc_ hC_)))
 have HR35:=am hR3;have HR45:=am hR4;have HZ5 : Aside0 (g3 < w5.heap.size ∧ g4 < w5.heap.size):=⟨hZ3,hZ4⟩;have HT5:=am hT0;clear hR3 hR4 hZ3 hZ4 hT0 d1 d2 d3 d4
 go_upto_region 6 with (first
  | ((with_reducible refine gate_dst (N:=39) rfl ?_);refine Kd.R_lit (Kd.int .u8) (w0:=w5) w5.heap.size 5 ?hg (N:=39) ?hd (xs:=([] : List Int)) (inner:=[]) (ok:=fun _=>True) (okp:=fun _=>True) ?hr ?hp (fun _ hk=>hk) trivial (Below.refl _ _) (Nat.le_refl _) (by simp) ?_;(case hd=>rfl);(case hg=>rfl);(case hr=>first | (go_simp;done) | (go_simp;rfl));(case hp=>exact (Reps.none _ _));intro v8 w8 ho_ hb_ hg_ hnew_;clear hg_ hnew_;have HR8:=am ho_;have HB8:=am hb_;clear ho_ hb_)
  | ((with_reducible refine gate_builtin (b:= .append) (xs:=#[.tmp 39,.tmp 40]) rfl ?_);at_builtin;refine Kd.R_append_rows (Kd.int .u8) (w0:=w5) w5.heap.size rfl (.tmp 39) (.tmp 40) 26 5 (.int .u8 0) 1 rfl Tryd.underlying26 info_u8zz rfl (by decide) (by omega) _ [] m _ _ _ (fun _=>True) (fun _=>False) rfl rfl HR8.out (Kd.C_below HM.out (below_step HT5.out HB8.out)) (fun _ _ h=>h) (fun _ h=>h.elim) (fun _ _=>trivial) HB8.out HB8.out.size (by simp;omega) ?_;intro v9 w9 ho_ hb_ hg_ hat_;clear hg_ hat_;rw [List.nil_append] at ho_;have HB9:=am hb_;obtain ⟨A9,c9,hv_,hc_,hC_⟩:=Kd.R_reads ho_;subst hv_;have Hc9:=am hc_;have HC9:=am hC_;clear ho_ hb_ hc_ hC_)
  | (go_at_call 11;go_loud (have hd_:=decode_calls A9 c9 m w9 HC9.out Hc9.out HMB.out (by omega);rw [HXD.out,HED.out] at hd_;(with_reducible refine hd_.mono ?_);clear hd_;rintro e w10 ⟨⟨L11,rfl,hl_,ho_,hM_⟩,hb_⟩;have HL11l:=am hl_;have HL11o:=am ho_;have HML11:=am hM_;have BDL11:=am hb_;have HL11i : Aside0 ((Tryd.prog.info? 24).map (·.size) = some L11.length):=⟨by rw [hl_];exact info_call⟩;clear hl_ ho_ hM_ hb_))
  | ((with_reducible refine gate_dst (N:=11) rfl ?_);refine box_event ?hg (N:=11) ?hd (cs:=Z.toArray) (t:=24) ?hr ?_;(case hd=>rfl);(case hg=>rfl);(case hr=>first | (simp [execOp,Instr.alloc,HAL.out,newVar,newRow,go_sem];done) | (simp [execOp,Instr.alloc,HAL.out,newVar,newRow,go_sem];rfl));intro g11 hg_ w11 hbox_ hb_;have h11_ : Lies w11 g11 Z:=Lies.box hbox_;have LB11:=am h11_;have G11:=am hg_;have BN11:=am hb_;clear h11_ hg_ hbox_ hb_)
  | ((with_reducible refine gate_store (t:=24) (p:=11) rfl ?_);refine wpList_store_mid rfl 24 _ _ rfl g11 0 L11.toArray rfl rfl (by rw [List.size_toArray,HL11l.out,← HZl.out];exact LB11.out.there) (by rw [List.size_toArray];exact HL11i.out) (all_oneCell_toArray HL11o.out) ?_))
 have e_:=G11.out;have z_:=(HB9.out.trans (BDL11.out.mono HB9.out.size)).size;have b_ : Below w5.heap.size w5 (w11.setCells g11 0 L11):=below_setCells' g11 (by have:=BN11.out.size;omega) L11 0 w11 (below_step (HB9.out.trans (BDL11.out.mono HB9.out.size)) BN11.out)
 have n_ : Lies (w11.setCells g11 0 L11) g11 L11:=by have:=LB11.out.splice 0 L11 (by rw [HL11l.out,HZl.out];decide);rwa [List.take_zero,List.nil_append,List.drop_of_length_le (by rw [HL11l.out,HZl.out];decide),List.append_nil] at this
 have k_:=kept_setCells g11 0 L11 w11
 have M_ : k24.M (w11.setCells g11 0 L11) w9.heap.size (fun k=>k < w10.heap.size) xd L11:=
  Kd.M_step (Kd.M_below (k24.M_mono (fun k h=>h.2.2.1) (k24.M_bound HML11.out)) BN11.out) (fun k ho hl=>k_.block k hl (by show ¬ k = g11;have ho' : k < w10.heap.size:=ho;omega))
 generalize World.setCells _ _ _ _ = w12 at b_ n_ M_ ⊢;obtain ⟨A11,c11,hLe11,hc11,hC11⟩:=k24_open (k24.K_of_M M_);have BZ11:=am b_;have LZ11:=am n_;have CZ11:=am hC11;have Hc11:=am hc11;have HLe11:=am hLe11;clear e_ z_ b_ n_ M_ k_ hC11 hc11 hLe11;have HM12:=am (Kd.C_below HM.out (below_step HT5.out BZ11.out))
 go_upto_region 7 with (first
  | (go_at_call 12;go_loud (have hd_:=refDecode_calls A2 c2 m w12 HM12.out HMC.out HMB.out (by omega);rw [HXD.out,HED.out] at hd_;(with_reducible refine hd_.mono ?_);clear hd_;rintro e w13 ⟨⟨L13,rfl,hl_,ho_,hM_⟩,hb_⟩;have HL13l:=am hl_;have HL13o:=am ho_;have HML13:=am hM_;have BDL13:=am hb_;have HL13i : Aside0 ((Tryd.prog.info? 24).map (·.size) = some L13.length):=⟨by rw [hl_];exact info_call⟩;clear hl_ ho_ hM_ hb_))
  | ((with_reducible refine gate_dst (N:=13) rfl ?_);refine box_event ?hg (N:=13) ?hd (cs:=Z.toArray) (t:=24) ?hr ?_;(case hd=>rfl);(case hg=>rfl);(case hr=>first | (simp [execOp,Instr.alloc,HAL.out,newVar,newRow,go_sem];done) | (simp [execOp,Instr.alloc,HAL.out,newVar,newRow,go_sem];rfl));intro g13 hg_ w14 hbox_ hb_;have h11_ : Lies w14 g13 Z:=Lies.box hbox_;have LB13:=am h11_;have G13:=am hg_;have BN13:=am hb_;clear h11_ hg_ hbox_ hb_)
  | ((with_reducible refine gate_store (t:=24) (p:=13) rfl ?_);refine wpList_store_mid rfl 24 _ _ rfl g13 0 L13.toArray rfl rfl (by rw [List.size_toArray,HL13l.out,← HZl.out];exact LB13.out.there) (by rw [List.size_toArray];exact HL13i.out) (all_oneCell_toArray HL13o.out) ?_))
 have e_:=G13.out;have z_:=(BDL13.out).size;have b_ : Below w12.heap.size w12 (w14.setCells g13 0 L13):=below_setCells' g13 (by have:=BN13.out.size;omega) L13 0 w14 (below_step BDL13.out BN13.out)
 have n_ : Lies (w14.setCells g13 0 L13) g13 L13:=by have:=LB13.out.splice 0 L13 (by rw [HL13l.out,HZl.out];decide);rwa [List.take_zero,List.nil_append,List.drop_of_length_le (by rw [HL13l.out,HZl.out];decide),List.append_nil] at this
 have k_:=kept_setCells g13 0 L13 w14
 have M_ : k24.M (w14.setCells g13 0 L13) w12.heap.size (fun k=>k < w13.heap.size) xd L13:=
  Kd.M_step (Kd.M_below (k24.M_mono (fun k h=>h.2.2.1) (k24.M_bound HML13.out)) BN13.out) (fun k ho hl=>k_.block k hl (by show ¬ k = g13;have ho' : k < w13.heap.size:=ho;omega))
 generalize World.setCells _ _ _ _ = w15 at b_ n_ M_ ⊢;obtain ⟨A13,c13,hLe13,hc13,hC13⟩:=k24_open (k24.K_of_M M_);have BZ13:=am b_;have LZ13:=am n_;have CZ13:=am hC13;have Hc13:=am hc13;have HLe13:=am hLe13;clear e_ z_ b_ n_ M_ k_ hC13 hc13 hLe13;obtain ⟨SX,hSX⟩ : ∃ P,P = Held g3 g4 g11 g13 L LO L11 L13 (.slice A4 p.length c4) (.slice A5 p.length c5) p:=⟨_,rfl⟩;have h5_:=below_step BZ11.out BZ13.out;have hZ12 : g11 < w12.heap.size:=LZ11.out.lt (by rw [HL11l.out];decide)
 have HSB : Aside0 (∀ w,Below W.heap.size W w ∧ Below w15.heap.size w15 w → SX w):=⟨fun w ⟨_,hb⟩=>by
  have hb5:=below_step h5_ hb;have hb12:=below_step BZ13.out hb;rw [hSX]
  exact ⟨rangeAt_below HR35.out hb5 HZ5.out.1,rangeAt_below HR45.out hb5 HZ5.out.2,rangeAt_below LZ11.out.range hb12 hZ12,rangeAt_below LZ13.out.range hb (LZ13.out.lt (by rw [HL13l.out];decide)),
   Kd.C_string (P:=Tryd.prog) (A:=A4) (c:=c4) Tryd.underlying26 Tryd.underlying5 Tryd.underlying9 (Kd.C_below HCP45.out hb5),Kd.C_string (P:=Tryd.prog) (A:=A5) (c:=c5) Tryd.underlying26 Tryd.underlying5 Tryd.underlying9 (Kd.C_below HC5.out hb5)⟩⟩
 have HSV : Aside0 (∀ w,SX w → Held g3 g4 g11 g13 L LO L11 L13 (.slice A4 p.length c4) (.slice A5 p.length c5) p w):=⟨fun w h=>by rw [← hSX];exact h⟩;have HB0 : Aside0 (Below W.heap.size W w15.drew ∧ Below w15.heap.size w15 w15.drew):=⟨below_drew (below_step HT5.out h5_),below_drew (Below.refl _ _)⟩;have HS0:=am (HSB.out _ HB0.out)
 have HC13 : Aside0 (∀ w,Below W.heap.size W w ∧ Below w15.heap.size w15 w → Calls Tryd.prog 13 #[.agg L11.toArray,.agg L13.toArray] w fun e w'=>e = .returned (.bool true) ∧ Below w.heap.size w w'):=⟨fun w ⟨_,hb⟩=>by
  obtain ⟨f,hf⟩:=fits_kids w12 xd A11 CZ11.out;rw [HLe11.out,HLe13.out]
  exact refSameCall_calls f xd xd A11 A13 c11 c13 true w (Kd.C_below CZ11.out (below_step BZ13.out hb)) Hc11.out (Kd.C_below CZ13.out hb) Hc13.out hf (same_self f xd hf)⟩
 clear hSX h5_ hZ12;have heq:=HEQ.out;have dse : (ec == ec) = true:=beq_self_eq_true _;have dsd : (ed == ed) = true:=beq_self_eq_true _;have dsb : (bs == bs) = true:=beq_self_eq_true _;have ds0 : (e0 == e0) = true:=beq_self_eq_true _
 go_upto_region 7 with (fail)
 refine start_ (n:=52) (S:=SX) (ds:=[]) (bl 52 0) (by kernel_rfl) rfl rfl HS0.out (fun hHeld=>?_);refine with_tabW calls_r7.tab calls_r7.bits (fun HT_ HW_=>?_);refine p_ HT_ 0 (some 50) calls_r7.l0 ?_;refine tk HT_ HW_ hHeld 1 (some 51) calls_r7.l1 (hr:=by intro w' hs_;have k1_:=(HSV.out _ hs_).2.2.2.2.1;go_simp;with_reducible rfl) (h:=?_);refine p_ HT_ 2 (some 52) calls_r7.l2 ?_;refine tk HT_ HW_ hHeld 3 (some 53) calls_r7.l3 (hr:=by intro w' hs_;have k2_:=(HSV.out _ hs_).2.2.2.2.2;go_simp;with_reducible rfl) (h:=?_);refine p_ HT_ 4 (some 54) calls_r7.l4 ?_;refine p_ HT_ 5 (some 55) calls_r7.l5 ?_;refine p_ HT_ 6 (some 56) calls_r7.l6 ?_;refine p_ HT_ 7 (some 57) calls_r7.l7 ?_;refine p_ HT_ 8 (some 58) calls_r7.l8 ?_;refine p_ HT_ 9 (some 59) calls_r7.l9 ?_;refine p_ HT_ 10 (some 60) calls_r7.l10 ?_;refine tk HT_ HW_ hHeld 11 (some 61) calls_r7.l11 (hr:=by intro w' hs_;exact load_runO' (ty:=24) (y:= .tmp 11) (g:=g11) (off:=0) (L:=L11) rfl rfl (HSV.out _ hs_).2.2.1 Tryd.underlying24 rfl HL11i.out) (h:=?_);refine tk HT_ HW_ hHeld 12 (some 62) calls_r7.l12 (hr:=by intro w' hs_;exact load_runO' (ty:=24) (y:= .tmp 13) (g:=g13) (off:=0) (L:=L13) rfl rfl (HSV.out _ hs_).2.2.2.1 Tryd.underlying24 rfl HL13i.out) (h:=?_);refine o_ HT_ 13 (some 63) calls_r7.l13 fun K hK=>?_;refine gs Tryd.func13 #[.agg L11.toArray,.agg L13.toArray] ?_;refine (HC13.out _ HB0.out).mono ?_;rintro e u13 ⟨rfl,hb_⟩;have HB13 : Aside0 (Below W.heap.size W u13 ∧ Below w15.heap.size w15 u13):=⟨below_step HB0.out.1 hb_,below_step HB0.out.2 hb_⟩;clear hb_;refine ⟨_,rfl,?_⟩;refine hK.out _ _ (HSB.out _ HB13.out) (fun hHeld=>?_);clear hK K;refine nm (some 63) ?_;refine p_ HT_ 14 (some 64) calls_r7.l14 ?_;refine p_ HT_ 15 (some 65) calls_r7.l15 ?_;refine p_ HT_ 16 (some 66) calls_r7.l16 ?_;refine p_ HT_ 17 (some 67) calls_r7.l17 ?_;refine p_ HT_ 18 (some 68) calls_r7.l18 ?_;refine p_ HT_ 19 (some 69) calls_r7.l19 ?_;refine p_ HT_ 20 (some 70) calls_r7.l20 ?_;refine tk HT_ HW_ hHeld 21 (some 71) calls_r7.l21 (hr:=by intro w' hs_;exact load_runO' (ty:=24) (y:= .tmp 3) (g:=g3) (off:=0) (L:=L) rfl rfl (HSV.out _ hs_).1 Tryd.underlying24 rfl HLi.out) (h:=?_);refine tk HT_ HW_ hHeld 23 (some 73) calls_r7.l22 (hr:=by intro w' hs_;exact load_runO' (ty:=24) (y:= .tmp 3) (g:=g3) (off:=0) (L:=L) rfl rfl (HSV.out _ hs_).1 Tryd.underlying24 rfl HLi.out) (h:=?_);refine o_ HT_ 22 (some 72) calls_r7.l23 fun K hK=>?_;refine gs Tryd.func14 #[.agg L.toArray] ?_;refine (HC22.out _ HB13.out.1).mono ?_;rintro e u22 ⟨rfl,hb_⟩;have HB22 : Aside0 (Below W.heap.size W u22 ∧ Below w15.heap.size w15 u22):=⟨below_step HB13.out.1 hb_,below_step HB13.out.2 hb_⟩;clear hb_;refine ⟨_,rfl,?_⟩;refine hK.out _ _ (HSB.out _ HB22.out) (fun hHeld=>?_);clear hK K;refine nm (some 72) ?_;refine o_ HT_ 24 (some 74) calls_r7.l24 fun K hK=>?_;refine gs Tryd.func15 #[.agg L.toArray] ?_;refine (HC24.out _ HB22.out.1).mono ?_;rintro e u24 ⟨rfl,hb_⟩;have HB24 : Aside0 (Below W.heap.size W u24 ∧ Below w15.heap.size w15 u24):=⟨below_step HB22.out.1 hb_,below_step HB22.out.2 hb_⟩;clear hb_;refine ⟨_,rfl,?_⟩;refine hK.out _ _ (HSB.out _ HB24.out) (fun hHeld=>?_);clear hK K;refine nm (some 74) ?_;refine p_ HT_ 25 (some 75) calls_r7.l25 ?_;refine p_ HT_ 26 (some 76) calls_r7.l26 ?_;refine p_ HT_ 27 (some 77) calls_r7.l27 ?_;refine tk HT_ HW_ hHeld 28 (some 78) calls_r7.l28 (hr:=by intro w' hs_;exact load_runO' (ty:=24) (y:= .tmp 3) (g:=g3) (off:=0) (L:=L) rfl rfl (HSV.out _ hs_).1 Tryd.underlying24 rfl HLi.out) (h:=?_);refine tk HT_ HW_ hHeld 29 (some 79) calls_r7.l29 (hr:=by intro w' hs_;exact load_runO' (ty:=24) (y:= .tmp 4) (g:=g4) (off:=0) (L:=LO) rfl rfl (HSV.out _ hs_).2.1 Tryd.underlying24 rfl HLOi.out) (h:=?_)
 refine tk HT_ HW_ hHeld 31 (some 81) calls_r7.l30 (hr:=by intro w' hs_;exact load_runO' (ty:=24) (y:= .tmp 3) (g:=g3) (off:=0) (L:=L) rfl rfl (HSV.out _ hs_).1 Tryd.underlying24 rfl HLi.out) (h:=?_);refine tk HT_ HW_ hHeld 32 (some 82) calls_r7.l31 (hr:=by intro w' hs_;exact load_runO' (ty:=24) (y:= .tmp 4) (g:=g4) (off:=0) (L:=LO) rfl rfl (HSV.out _ hs_).2.1 Tryd.underlying24 rfl HLOi.out) (h:=?_);refine o_ HT_ 30 (some 80) calls_r7.l32 fun K hK=>?_;refine gs Tryd.func16 #[.agg L.toArray,.agg LO.toArray] ?_;refine (HC30.out _ HB24.out.1).mono ?_;rintro e u30 ⟨rfl,hb_⟩;have HB30 : Aside0 (Below W.heap.size W u30 ∧ Below w15.heap.size w15 u30):=⟨below_step HB24.out.1 hb_,below_step HB24.out.2 hb_⟩;clear hb_;refine ⟨_,rfl,?_⟩;refine hK.out _ _ (HSB.out _ HB30.out) (fun hHeld=>?_);clear hK K;refine nm (some 80) ?_;refine o_ HT_ 33 (some 83) calls_r7.l33 fun K hK=>?_;refine gs Tryd.func13 #[.agg L.toArray,.agg LO.toArray] ?_;refine (HC33.out _ HB30.out.1).mono ?_;rintro e u33 ⟨rfl,hb_⟩;have HB33 : Aside0 (Below W.heap.size W u33 ∧ Below w15.heap.size w15 u33):=⟨below_step HB30.out.1 hb_,below_step HB30.out.2 hb_⟩;clear hb_;refine ⟨_,rfl,?_⟩;refine hK.out _ _ (HSB.out _ HB33.out) (fun hHeld=>?_);clear hK K;refine nm (some 83) ?_;refine p_ HT_ 34 (some 84) calls_r7.l34 ?_;refine p_ HT_ 35 (some 85) calls_r7.l35 ?_;refine p_ HT_ 36 (some 86) calls_r7.l36 ?_;refine tk HT_ HW_ hHeld 37 (some 87) calls_r7.l37 (hr:=by intro w' hs_;exact load_runO' (ty:=24) (y:= .tmp 3) (g:=g3) (off:=0) (L:=L) rfl rfl (HSV.out _ hs_).1 Tryd.underlying24 rfl HLi.out) (h:=?_);refine tk HT_ HW_ hHeld 38 (some 88) calls_r7.l38 (hr:=by intro w' hs_;exact load_runO' (ty:=24) (y:= .tmp 3) (g:=g3) (off:=0) (L:=L) rfl rfl (HSV.out _ hs_).1 Tryd.underlying24 rfl HLi.out) (h:=?_);refine o_ HT_ 39 (some 89) calls_r7.l39 fun K hK=>?_;refine gs Tryd.func16 #[.agg L.toArray,.agg L.toArray] ?_;refine (HC39.out _ HB33.out.1).mono ?_;rintro e u39 ⟨rfl,hb_⟩;have HB39 : Aside0 (Below W.heap.size W u39 ∧ Below w15.heap.size w15 u39):=⟨below_step HB33.out.1 hb_,below_step HB33.out.2 hb_⟩;clear hb_;refine ⟨_,rfl,?_⟩;refine hK.out _ _ (HSB.out _ HB39.out) (fun hHeld=>?_);clear hK K;refine nm (some 89) ?_;refine p_ HT_ 40 (some 90) calls_r7.l40 ?_;refine p_ HT_ 41 (some 91) calls_r7.l41 ?_;refine tk HT_ HW_ hHeld 42 (some 92) calls_r7.l42 (hr:=by intro w' hs_;exact load_runO' (ty:=24) (y:= .tmp 3) (g:=g3) (off:=0) (L:=L) rfl rfl (HSV.out _ hs_).1 Tryd.underlying24 rfl HLi.out) (h:=?_);refine tk HT_ HW_ hHeld 44 (some 94) calls_r7.l43 (hr:=by intro w' hs_;exact load_runO' (ty:=24) (y:= .tmp 3) (g:=g3) (off:=0) (L:=L) rfl rfl (HSV.out _ hs_).1 Tryd.underlying24 rfl HLi.out) (h:=?_);refine o_ HT_ 43 (some 93) calls_r7.l44 fun K hK=>?_;refine gs Tryd.func7 #[.agg L.toArray] ?_;refine (HC43.out _ HB39.out.1).mono ?_;rintro e u43 ⟨rfl,hb_⟩;have HB43 : Aside0 (Below W.heap.size W u43 ∧ Below w15.heap.size w15 u43):=⟨below_step HB39.out.1 hb_,below_step HB39.out.2 hb_⟩;clear hb_;refine ⟨_,rfl,?_⟩;refine hK.out _ _ (HSB.out _ HB43.out) (fun hHeld=>?_);clear hK K;refine nm (some 93) ?_;refine o_ HT_ 45 (some 95) calls_r7.l45 fun K hK=>?_;refine gs Tryd.func17 #[.agg L.toArray] ?_;refine (HC45.out _ HB43.out.1).mono ?_;rintro e u45 ⟨rfl,hb_⟩;have HB45 : Aside0 (Below W.heap.size W u45 ∧ Below w15.heap.size w15 u45):=⟨below_step HB43.out.1 hb_,below_step HB43.out.2 hb_⟩;clear hb_;refine ⟨_,rfl,?_⟩;refine hK.out _ _ (HSB.out _ HB45.out) (fun hHeld=>?_);clear hK K;refine nm (some 95) ?_
 refine p_ HT_ 46 (some 96) calls_r7.l46 ?_;refine p_ HT_ 47 (some 97) calls_r7.l47 ?_;refine p_ HT_ 48 (some 98) calls_r7.l48 ?_;refine o_ HT_ 49 (some 99) calls_r7.l49 fun K hK=>?_;refine gs Tryd.func9 #[] ?_;refine (HC49.out _ HB45.out.1).mono ?_;rintro e u49 ⟨rfl,hb_⟩;have HB49 : Aside0 (Below W.heap.size W u49 ∧ Below w15.heap.size w15 u49):=⟨below_step HB45.out.1 hb_,below_step HB45.out.2 hb_⟩;clear hb_;refine ⟨_,rfl,?_⟩;refine hK.out _ _ (HSB.out _ HB49.out) (fun hHeld=>?_);clear hK K;refine nm (some 99) ?_;refine p_ HT_ 50 (some 100) calls_r7.l50 ?_;refine p_ HT_ 51 (some 6) calls_r7.l51 ?_;refine done_ (done_of HT_.out (by kernel_rfl)) ?_;clear HT_ HW_ hHeld
 go_wp2
 go_ret
 exact ⟨rfl,HB49.out.1⟩
set_option maxRecDepth 100000 in
theorem walks : WalksD 4 Tryd.f4:=by
 intro H enc W base args ds ps hT hval hA _ _ _;rw [Tryd.params4] at hA hval;obtain ⟨v0,v1,v2,d0,d1,d2,p0,p1,p2,rfl,rfl,rfl,h0,h1,h2⟩:=trodAll_three hA;obtain ⟨A0,c0,x,rfl,hC,hc⟩:=ArgCall.open_call (hval 0 24 v0 rfl rfl) h0;obtain ⟨A1,c1,o,rfl,hD,hd⟩:=ArgCall.open_call (hval 1 24 v1 rfl rfl) h1;obtain ⟨A2,len,cap,l,rfl,⟨hm,hmc⟩,rfl,hmb⟩:=ArgBytes.open_bytes (hval 2 26 v2 rfl rfl) h2;exact walk x A0 c0 o A1 c1 A2 cap l W hC hc hD hd hm hmc hmb hT
set_option maxRecDepth 100000 in
theorem rowed (os : Os) (started : os.Started) (H : Type) (enc : TypeId × Value → H) :
 ReturnsInHanded {} Tryd.checked os 4 .any (fun w args=>(Rows.codeCallsSpec.pre enc Tryd.prog Tryd.f4 [] false w args ∧ laidMetH Tryd.prog laidL w) ∧ sizedMet enc Tryd.prog Tryd.f4 (OpenSpec.ofChange Rows.codeCallsSpec) false w args) (Rows.codeCallsSpec.post enc Tryd.prog Tryd.f4 false true false false):=
 liftedD (s:=Rows.codeCallsSpec) Tryd.func4 (by kernel_rfl) (by kernel_rfl) (by kernel_rfl) (by kernel_rfl) rfl
  (fun H ds h=>by
    have h' : ds.length = 3:=h
    match ds,h' with
    | [d1,d2,d3],_=>rfl)
  os started H enc
  (ChangeSpec.witness_shaped (enc:=enc) (C:=Tryd.checked) (os:=os) (X:=fun w _=>laidMetH Tryd.prog laidL w) false (World.laidAll Tryd.prog os laidL) #[.agg #[.int .i64 0,.int .i64 0,.int .i64 0,.slice none 0 0],.agg #[.int .i64 0,.int .i64 0,.int .i64 0,.slice none 0 0],.slice none 0 0] 8 (World.laidAll_os _ _ _)
    (World.shaped_of_ZipB (by kernel_rfl) (by kernel_rfl)) (by kernel_rfl) (by kernel_rfl) (by kernel_rfl)
    (by rw [MakeChecks.laidMetH_plain _ _ _ (by kernel_rfl)];exact laidMet_laidAll _ (by kernel_rfl) (by kernel_rfl))) walks
theorem over : Rows.codeCallsRow.holds Tryd.pinned (OpenSpec.ofChange Rows.codeCallsSpec):=
 OpenClaim.holds_of_wide 4 Tryd.f4 rfl rfl rfl rfl rfl rfl rfl ⟨rfl,rfl,rfl,rfl,rfl⟩ rfl rfl rfl rfl rfl (by kernel_rfl) Tryd.func4 (by kernel_rfl)
  (of_decide_eq_true (by kernel_rfl)) (by unfold Func.isWrapper;first | (rw [if_pos (by decide +kernel)];kernel_rfl) | (rw [if_neg (by decide +kernel)];exact ⟨rfl,rfl⟩))
  (fun os started H enc _=>rowed os started H enc)
theorem card : Rows.CodeCallsCardSaid:=
 Claim7.holds_tied_plain_at .later [] [.listed,.data] true (true, "d0f712555510da5ebc838359b0fbfb6ab54e0f595d8fc0ae49970d8674c69419") false over (fun _ h=>by cases h) (by kernel_rfl) (fun _ h=>by cases h) codeCalls_row_tie rfl ⟨rfl,rfl⟩ (by kernel_rfl) rfl
  (fun f fn hf hfn=>by
    obtain rfl : f = 4:=Option.some.inj ((show Tryd.prog.funcNamed "althing/althinglaw7.CodeCalls" = some 4 by kernel_rfl).symm.trans hf) |>.symm;obtain rfl : fn = Tryd.f4:=(Option.some.inj (Tryd.func4.symm.trans hfn)).symm
    exact ⟨by kernel_rfl,fun j t ht=>by
     have hm : t ∈ Tryd.f4.params.toList:=by simpa using Array.mem_of_getElem? ht
     have hall : (Tryd.f4.params.toList.all fun u=>!Tryd.prog.wantsStandIn u) = true:=by kernel_rfl
     exact (show Tryd.prog.wantsStandIn t = false by simpa using List.all_eq_true.1 hall t hm)⟩)
  (by kernel_rfl)
end Go.Proofs.YtilckocpgififaaDoor.LawCodeCalls
namespace Go.Proofs.YtilckocpgififaaDoor
theorem codeCalls_holds : Rows.CodeCallsCardSaid:=LawCodeCalls.card
end Go.Proofs.YtilckocpgififaaDoor
