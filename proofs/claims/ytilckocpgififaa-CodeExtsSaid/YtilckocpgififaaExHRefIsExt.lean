/- The reference's IsExt (laid by mkrefisext.py). -/
import Derived.Test.YtilckocpgififaaExHStep
import Derived.Test.YtilckocpgififaaExHIsExt
import Derived.Test.YtilckocpgififaaExGx6
namespace Go.Proofs.Ytilckocpgififaa.G
open Go.Extern.Stop (cell)
open Go.RowKit Go.Proofs.YtilckocpgififaaW.PrintWords Go.Proofs.YtilckocpgififaaW.PrintLast Go.Proofs.YtilckocpgififaaW.PrintMore
set_option linter.unusedVariables false
set_option linter.unusedSimpArgs false
def refE (b1 b2 b3 b4 b5 bS zS nV vk v5 zV nC cr cz : Bool) : Bool:=b1 && b2 && b3 && b4 && b5 && (bS || !zS) && (nV == vk) && (!nV || v5) && (nV || !zV) && (if nC then cr else cz)
def zeroVote : List Value:=[.int .i64 0,.bool false,.int .i64 0,.int .i64 0,.int .i64 0,.int .i64 0]
theorem built_vote : Try.prog.built 31 [] = some zeroVote.toArray:=by kernel_rfl
theorem built_sum : Try.prog.built 29 [] = some (zSum.map cell).toArray:=by kernel_rfl
theorem neq_of_eql {w : World} {t : TypeId} {xs ys : Array Value} {r : Bool} (h : (binOp .eql t (.agg xs) (.agg ys)).run Try.prog w = .ok (.bool r) w) : (binOp .neq t (.agg xs) (.agg ys)).run Try.prog w = .ok (.bool (!r)) w:=by
 rw [run_neq_struct];rw [run_eql_struct] at h
 cases hq : (Op.equalIn 10000 t (.agg xs) (.agg ys)).run Try.prog w with
 | ok b w'=>
   rw [hq] at h;simp only [Result.andThen_ok,Result.ok.injEq,Value.bool.injEq] at h ⊢;exact ⟨by rw [h.1],h.2⟩
 | halt b w'=>rw [hq] at h;simp [Result.andThen] at h
theorem guard_sum : Try.prog.eqGuardType Try.prog.depth 29 = false:=by kernel_rfl
theorem guard_vote : Try.prog.eqGuardType Try.prog.depth 31 = false:=by kernel_rfl
theorem build_run0 {P : Program} {o : Oper} {a : Act} {W : World} {t : TypeId} {v : Value} (ho : o.op = .build t #[]) (hr : (Instr.build t #[]).run P W = .ok v W) : (execOp a.eval o).run P W = .ok (.value v) W:=by
 unfold execOp
 simp only [ho,List.map_toArray,List.map_nil,Sem.run_bind,hr,Result.andThen_ok,Sem.run_pure]
theorem neq_run {P : Program} {o : Oper} {a : Act} {W : World} {t t2 : TypeId} {x y : Operand} {xs ys : Array Value} {v : Value} (ho : o.op = .binOp .neq t x y t2) (hx : a.eval x = .agg xs) (hy : a.eval y = .agg ys) (hm : P.eqGuardType P.depth t = false)
 (hr : (binOp .neq t (.agg xs) (.agg ys)).run P W = .ok v W) : (execOp a.eval o).run P W = .ok (.value v) W:=by
 unfold execOp
 simp only [ho,hx,hy,Sem.run_bind,run_eqGuard_agg _ _ _ _ _ _ _ hm,Result.andThen_ok,hr,Sem.run_pure]
theorem neq_vote (w : World) (x : Ext) : (binOp .neq 31 (.agg #[.int .i64 x.vkind,.bool x.vaye,.int .i64 x.vlevel,.int .i64 x.va,.int .i64 x.vn,.int .i64 x.vs]) (.agg zeroVote.toArray)).run Try.prog w = .ok (.bool (!decide (x.vkind = 0 ∧ x.vaye = false ∧ x.vlevel = 0 ∧ x.va = 0 ∧ x.vn = 0 ∧ x.vs = 0))) w:=by
 unfold zeroVote
 go_simp
 cases hv : x.vaye <;> by_cases h1 : x.vkind = 0 <;> by_cases h2 : x.vlevel = 0 <;> by_cases h3 : x.va = 0 <;> by_cases h4 : x.vn = 0 <;> by_cases h5 : x.vs = 0 <;> simp [h1,h2,h3,h4,h5]
def refIsExtR.T : Bool × List (List Nat × List Nat):=(true,[([],[]),([0],[0]),([],[]),([2],[2]),([3],[3]),([4],[4]),([1,5],[1,5]),([6,1],[6]),([7],[7]),([8,7,7],[7,8]),([9,9,7],[7,9]),([10],[10]),([11,10],[10,11]),([12,10,10],[10,12]),([13,10],[10,13]),([10,14,7],[7,10,14]),([7,15],[7,15]),([16,13],[16]),([17],[17]),([18,17,17],[17,18]),([19,17],[17,19]),([20,19,17],[17,20]),([21],[21]),([22,21],[21,22]),([21],[21]),([23,24,21],[21,23,24]),([21,25,17],[17,21,25]),([17,26],[17,26])])
def refIsExtR.B : List Nat:=[0,1,0,4,12,28,63,127,255,511,1023,2047,4095,8191,16383,32767,65535,131071,262143,524287,1048575,2097151,4194303,8388607,4194303,33554431,67108863,134217727]
theorem refIsExtR.tab : rtab .any (opsOf Try.f13 11) = refIsExtR.T:=by kernel_rfl
theorem refIsExtR.bits : waitsOk refIsExtR.T.2 refIsExtR.B = true:=by kernel_rfl
def refIsExtR.l0 : Array Bool:=bl 28 1
def refIsExtR.l1 : Array Bool:=bl 28 5
def refIsExtR.l2 : Array Bool:=bl 28 13
def refIsExtR.l3 : Array Bool:=bl 28 29
def refIsExtR.l4 : Array Bool:=bl 28 61
def refIsExtR.l5 : Array Bool:=bl 28 63
def refIsExtR.l6 : Array Bool:=bl 28 127
def refIsExtR.l7 : Array Bool:=bl 28 255
def refIsExtR.l8 : Array Bool:=bl 28 511
def refIsExtR.l9 : Array Bool:=bl 28 1023
def refIsExtR.l10 : Array Bool:=bl 28 2047
def refIsExtR.l11 : Array Bool:=bl 28 4095
def refIsExtR.l12 : Array Bool:=bl 28 8191
def refIsExtR.l13 : Array Bool:=bl 28 16383
def refIsExtR.l14 : Array Bool:=bl 28 32767
def refIsExtR.l15 : Array Bool:=bl 28 65535
def refIsExtR.l16 : Array Bool:=bl 28 131071
def refIsExtR.l17 : Array Bool:=bl 28 262143
def refIsExtR.l18 : Array Bool:=bl 28 524287
def refIsExtR.l19 : Array Bool:=bl 28 1048575
def refIsExtR.l20 : Array Bool:=bl 28 2097151
def refIsExtR.l21 : Array Bool:=bl 28 4194303
def refIsExtR.l22 : Array Bool:=bl 28 8388607
def refIsExtR.l23 : Array Bool:=bl 28 16777215
def refIsExtR.l24 : Array Bool:=bl 28 33554431
def refIsExtR.l25 : Array Bool:=bl 28 67108863
def refIsExtR.l26 : Array Bool:=bl 28 134217727
def refIsExtR.l27 : Array Bool:=bl 28 268435455
set_option maxRecDepth 100000 in
set_option maxHeartbeats 64000000 in
theorem refIsExt_walk (x : Ext) (A : Option Addr) (c : Nat) (w : World) (hx : x.sum.length = 32) (hC : Kd.C k25 w A x.call.f3.length x.call.f3) (hc : x.call.f3.length ≤ c)
 (hk : 1 ≤ x.kind ∧ x.kind ≤ 11) (hw : 0 ≤ x.who ∧ x.who ≤ 9) (M : Int) (hM : M = if x.kind = 4 then 1000 else 1073741824)
 (b1 b2 b3 b4 b5 bS zS nV v5 zV nC cr : Bool) (e1 : althingref7_num.f 40 x.kind 84 x.dest 9 = some b1) (e2 : althingref7_num.f 40 x.kind 78 x.amt M = some b2) (e3 : althingref7_num.f 40 x.kind 82 x.rfd 11 = some b3)
 (e4 : althingref7_num.f 40 x.kind 75 x.track 3 = some b4) (e5 : althingref7_num.f 40 x.kind 76 x.level 6 = some b5) (eS : althingref7_names.f 40 x.kind 83 = some bS) (hzS : (!(x.sum == zSum)) = zS)
 (eV : althingref7_names.f 40 x.kind 86 = some nV) (e5v : althingref5_Is.f 40 x.vkind x.vaye x.vlevel x.va x.vn x.vs = some v5)
 (hzV : (!decide (x.vkind = 0 ∧ x.vaye = false ∧ x.vlevel = 0 ∧ x.va = 0 ∧ x.vn = 0 ∧ x.vs = 0)) = zV) (eC : althingref7_names.f 40 x.kind 67 = some nC) (ecr : althingref7_IsCall.f 40 x.call.f0 x.call.f1 x.call.f2 x.call.f3 = some cr) :
 Calls Try.prog 13 #[.agg (x.cells A c).toArray] w fun e w'=>e = .returned (.bool (refE b1 b2 b3 b4 b5 bS zS nV (decide (x.vkind ≠ 0)) v5 zV nC cr (decide (x.call.f0 = 0) && decide (x.call.f1 = 0) && decide (x.call.f2 = 0) && decide (x.call.f3.length = 0)))) ∧ Below w.heap.size w w':=by
 unfold refE
 obtain ⟨L,hL⟩ : ∃ L,L = x.cells A c:=⟨_,rfl⟩;obtain ⟨SL,hSL⟩ : ∃ SL,SL = x.sum.map cell:=⟨_,rfl⟩;obtain ⟨ZL,hZL⟩ : ∃ ZL,ZL = zSum.map cell:=⟨_,rfl⟩;obtain ⟨VZ,hVZ⟩ : ∃ VZ,VZ = zeroVote.toArray:=⟨_,rfl⟩;have HBZ : Aside0 (∀ w,(Instr.build 29 #[]).run Try.prog w = .ok (.agg ZL.toArray) w):=⟨fun w=>run_build w _ _ _ (by rw [hZL];exact built_sum)⟩;have HBV : Aside0 (∀ w,(Instr.build 31 #[]).run Try.prog w = .ok (.agg VZ) w):=⟨fun w=>run_build w _ _ _ (by rw [hVZ];exact built_vote)⟩
 have HZS : Aside0 (∀ w,(binOp .neq 29 (.agg SL.toArray) (.agg ZL.toArray)).run Try.prog w = .ok (.bool zS) w):=⟨fun w=>by
  rw [hSL,hZL,← hzS]
  exact neq_of_eql (run_eql_bytes w 29 5 32 Try.underlying29 Try.underlying5 size_u8 x.sum zSum hx List.length_replicate)⟩
 have HZV : Aside0 (∀ w,(binOp .neq 31 (.agg #[.int .i64 x.vkind,.bool x.vaye,.int .i64 x.vlevel,.int .i64 x.va,.int .i64 x.vn,.int .i64 x.vs]) (.agg VZ)).run Try.prog w = .ok (.bool zV) w):=⟨fun w=>by
  rw [hVZ,← hzV]
  exact neq_vote w x⟩
 have HIE:=am (show (Try.prog.info? 33).map (·.size) = some L.length by rw [hL,Ext.cells_length _ _ _ hx];exact info_ext');have HSLl : Aside0 (SL.length = 32):=⟨by rw [hSL,List.length_map];exact hx⟩;have HL:=am hL;have HC:=am hC;have Hc:=am hc;have Hx:=am hx;have E1:=am e1;have E2:=am e2;have E3:=am e3;have E4:=am e4;have E5:=am e5;have ES:=am eS;have EV:=am eV;have E5v:=am e5v;have EC:=am eC;have ECR:=am ecr;have EK : Aside0 (althingref7_in.f x.kind 1 11 = some true):=⟨by unfold althingref7_in.f;rw [if_pos hk.1,decide_eq_true hk.2]⟩;have EW : Aside0 (althingref7_in.f x.who 0 9 = some true):=⟨by unfold althingref7_in.f;rw [if_pos hw.1,decide_eq_true hw.2]⟩;rw [← hL];clear hL hC hc hx e1 e2 e3 e4 e5 eS eV e5v eC ecr hzS hzV hVZ hk hw;go_enter Try.func13,Try.ntmps13
 go_upto_region 1 with (first
  | ((with_reducible refine gate_dst (N:=1) rfl ?_);refine box_event ?hg (N:=1) ?hd (cs:=L.toArray) (t:=33) ?hr ?_;(case hd=>rfl);(case hg=>rfl);(case hr=>first | (go_simp;done) | (go_simp;rfl));intro g1 hg1 w1 hbox1 hb1;have BX1:=am (rangeAt_box hbox1);have HXlt:=am (blk_lt hbox1);have HB1:=am hb1;clear hg1 hbox1 hb1))
 have HCA:=am (fun (w' : World) (h : w'.rangeAt g1 0 L)=>x.at_head A c (HL.out ▸ h));have HCV:=am (fun (w' : World) (h : w'.rangeAt g1 0 L)=>x.at_vote A c Hx.out (HL.out ▸ h));have HCC:=am (fun (w' : World) (h : w'.rangeAt g1 0 L)=>x.at_call A c Hx.out (HL.out ▸ h));have HCS : Aside0 (∀ (w' : World),w'.rangeAt g1 0 L → w'.rangeAt g1 7 SL):=⟨fun w' h=>by rw [hSL];exact x.at_sum A c (HL.out ▸ h)⟩;have hR0:=BX1.out;have hT0:=HB1.out;have hZ0:=HXlt.out;obtain ⟨c0,c1,c2,c3,c4,c5,c6⟩:=HCA.out w1 hR0;clear hSL hZL
 by_cases hk4 : x.kind = 4
 all_goals (
  first
   | (have dk4 : decide (x.kind = 4) = true:=decide_eq_true hk4
      have dk4b : (x.kind == 4) = true:=beq_iff_eq.2 hk4;rw [if_pos hk4] at hM
      clear hk4)
   | (have dk4 : decide (x.kind = 4) = false:=decide_eq_false hk4
      have dk4b : (x.kind == 4) = false:=beq_eq_false_iff_ne.2 hk4;rw [if_neg hk4] at hM
      clear hk4)
  subst hM
  go_upto_region 7 with (first
   | (go_at_call 28;with_reducible refine (althingref7_in.calls _ _ _ _ _ EK.out).mono ?_;rintro e u0 ⟨rfl,hd_⟩;have hB5:=hd_.below;replace hR0:=rangeAt_below hR0 hB5 hZ0;replace hT0:=below_step hT0 hB5;replace hZ0:=Nat.lt_of_lt_of_le hZ0 hB5.size;clear hB5 hd_;obtain ⟨c0,c1,c2,c3,c4,c5,c6⟩:=HCA.out _ hR0)
   | (go_at_call 28;with_reducible refine (althingref7_in.calls _ _ _ _ _ EW.out).mono ?_;rintro e u00 ⟨rfl,hd_⟩;have hB5:=hd_.below;replace hR0:=rangeAt_below hR0 hB5 hZ0;replace hT0:=below_step hT0 hB5;replace hZ0:=Nat.lt_of_lt_of_le hZ0 hB5.size;clear hB5 hd_;obtain ⟨c0,c1,c2,c3,c4,c5,c6⟩:=HCA.out _ hR0)))
 all_goals (
  cases b1 with
  | false=>
    go_wp2_with (first
     | (go_at_call 29;with_reducible refine (althingref7_num.calls 40 _ _ _ _ _ _ E1.out).mono ?_;rintro e u1 ⟨rfl,hB5⟩;refine rr hR0 hT0 hZ0 hB5 ?_;clear hR0 hT0 hZ0 hB5;intro hR0 hT0 hZ0;obtain ⟨c0,c1,c2,c3,c4,c5,c6⟩:=HCA.out _ hR0))
    all_goals go_ret
    all_goals exact ⟨by first | (simp;done) | (simp [vkd];done),hT0⟩
  | true=>
    cases b2 with
    | false=>
      go_wp2_with (first
       | (go_at_call 29;with_reducible refine (althingref7_num.calls 40 _ _ _ _ _ _ E1.out).mono ?_;rintro e u1 ⟨rfl,hB5⟩;refine rr hR0 hT0 hZ0 hB5 ?_;clear hR0 hT0 hZ0 hB5;intro hR0 hT0 hZ0;obtain ⟨c0,c1,c2,c3,c4,c5,c6⟩:=HCA.out _ hR0)
       | (go_at_call 29;with_reducible refine (althingref7_num.calls 40 _ _ _ _ _ _ E2.out).mono ?_;rintro e u2 ⟨rfl,hB5⟩;refine rr hR0 hT0 hZ0 hB5 ?_;clear hR0 hT0 hZ0 hB5;intro hR0 hT0 hZ0;obtain ⟨c0,c1,c2,c3,c4,c5,c6⟩:=HCA.out _ hR0))
      all_goals go_ret
      all_goals exact ⟨by first | (simp;done) | (simp [vkd];done),hT0⟩
    | true=>
      cases b3 with
      | false=>
        go_wp2_with (first
         | (go_at_call 29;with_reducible refine (althingref7_num.calls 40 _ _ _ _ _ _ E1.out).mono ?_;rintro e u1 ⟨rfl,hB5⟩;refine rr hR0 hT0 hZ0 hB5 ?_;clear hR0 hT0 hZ0 hB5;intro hR0 hT0 hZ0;obtain ⟨c0,c1,c2,c3,c4,c5,c6⟩:=HCA.out _ hR0)
         | (go_at_call 29;with_reducible refine (althingref7_num.calls 40 _ _ _ _ _ _ E2.out).mono ?_;rintro e u2 ⟨rfl,hB5⟩;refine rr hR0 hT0 hZ0 hB5 ?_;clear hR0 hT0 hZ0 hB5;intro hR0 hT0 hZ0;obtain ⟨c0,c1,c2,c3,c4,c5,c6⟩:=HCA.out _ hR0)
         | (go_at_call 29;with_reducible refine (althingref7_num.calls 40 _ _ _ _ _ _ E3.out).mono ?_;rintro e u3 ⟨rfl,hB5⟩;refine rr hR0 hT0 hZ0 hB5 ?_;clear hR0 hT0 hZ0 hB5;intro hR0 hT0 hZ0;obtain ⟨c0,c1,c2,c3,c4,c5,c6⟩:=HCA.out _ hR0))
        all_goals go_ret
        all_goals exact ⟨by first | (simp;done) | (simp [vkd];done),hT0⟩
      | true=>
        cases b4 with
        | false=>
          go_wp2_with (first
           | (go_at_call 29;with_reducible refine (althingref7_num.calls 40 _ _ _ _ _ _ E1.out).mono ?_;rintro e u1 ⟨rfl,hB5⟩;refine rr hR0 hT0 hZ0 hB5 ?_;clear hR0 hT0 hZ0 hB5;intro hR0 hT0 hZ0;obtain ⟨c0,c1,c2,c3,c4,c5,c6⟩:=HCA.out _ hR0)
           | (go_at_call 29;with_reducible refine (althingref7_num.calls 40 _ _ _ _ _ _ E2.out).mono ?_;rintro e u2 ⟨rfl,hB5⟩;refine rr hR0 hT0 hZ0 hB5 ?_;clear hR0 hT0 hZ0 hB5;intro hR0 hT0 hZ0;obtain ⟨c0,c1,c2,c3,c4,c5,c6⟩:=HCA.out _ hR0)
           | (go_at_call 29;with_reducible refine (althingref7_num.calls 40 _ _ _ _ _ _ E3.out).mono ?_;rintro e u3 ⟨rfl,hB5⟩;refine rr hR0 hT0 hZ0 hB5 ?_;clear hR0 hT0 hZ0 hB5;intro hR0 hT0 hZ0;obtain ⟨c0,c1,c2,c3,c4,c5,c6⟩:=HCA.out _ hR0)
           | (go_at_call 29;with_reducible refine (althingref7_num.calls 40 _ _ _ _ _ _ E4.out).mono ?_;rintro e u4 ⟨rfl,hB5⟩;refine rr hR0 hT0 hZ0 hB5 ?_;clear hR0 hT0 hZ0 hB5;intro hR0 hT0 hZ0;obtain ⟨c0,c1,c2,c3,c4,c5,c6⟩:=HCA.out _ hR0))
          all_goals go_ret
          all_goals exact ⟨by first | (simp;done) | (simp [vkd];done),hT0⟩
        | true=>
          cases b5 with
          | false=>
            go_wp2_with (first
             | (go_at_call 29;with_reducible refine (althingref7_num.calls 40 _ _ _ _ _ _ E1.out).mono ?_;rintro e u1 ⟨rfl,hB5⟩;refine rr hR0 hT0 hZ0 hB5 ?_;clear hR0 hT0 hZ0 hB5;intro hR0 hT0 hZ0;obtain ⟨c0,c1,c2,c3,c4,c5,c6⟩:=HCA.out _ hR0)
             | (go_at_call 29;with_reducible refine (althingref7_num.calls 40 _ _ _ _ _ _ E2.out).mono ?_;rintro e u2 ⟨rfl,hB5⟩;refine rr hR0 hT0 hZ0 hB5 ?_;clear hR0 hT0 hZ0 hB5;intro hR0 hT0 hZ0;obtain ⟨c0,c1,c2,c3,c4,c5,c6⟩:=HCA.out _ hR0)
             | (go_at_call 29;with_reducible refine (althingref7_num.calls 40 _ _ _ _ _ _ E3.out).mono ?_;rintro e u3 ⟨rfl,hB5⟩;refine rr hR0 hT0 hZ0 hB5 ?_;clear hR0 hT0 hZ0 hB5;intro hR0 hT0 hZ0;obtain ⟨c0,c1,c2,c3,c4,c5,c6⟩:=HCA.out _ hR0)
             | (go_at_call 29;with_reducible refine (althingref7_num.calls 40 _ _ _ _ _ _ E4.out).mono ?_;rintro e u4 ⟨rfl,hB5⟩;refine rr hR0 hT0 hZ0 hB5 ?_;clear hR0 hT0 hZ0 hB5;intro hR0 hT0 hZ0;obtain ⟨c0,c1,c2,c3,c4,c5,c6⟩:=HCA.out _ hR0)
             | (go_at_call 29;with_reducible refine (althingref7_num.calls 40 _ _ _ _ _ _ E5.out).mono ?_;rintro e u5 ⟨rfl,hB5⟩;refine rr hR0 hT0 hZ0 hB5 ?_;clear hR0 hT0 hZ0 hB5;intro hR0 hT0 hZ0;obtain ⟨c0,c1,c2,c3,c4,c5,c6⟩:=HCA.out _ hR0))
            all_goals go_ret
            all_goals exact ⟨by first | (simp;done) | (simp [vkd];done),hT0⟩
          | true=>
            go_upto_region 9 with (first
             | (go_at_call 29;with_reducible refine (althingref7_num.calls 40 _ _ _ _ _ _ E1.out).mono ?_;rintro e u1 ⟨rfl,hB5⟩;refine rr hR0 hT0 hZ0 hB5 ?_;clear hR0 hT0 hZ0 hB5;intro hR0 hT0 hZ0;obtain ⟨c0,c1,c2,c3,c4,c5,c6⟩:=HCA.out _ hR0)
             | (go_at_call 29;with_reducible refine (althingref7_num.calls 40 _ _ _ _ _ _ E2.out).mono ?_;rintro e u2 ⟨rfl,hB5⟩;refine rr hR0 hT0 hZ0 hB5 ?_;clear hR0 hT0 hZ0 hB5;intro hR0 hT0 hZ0;obtain ⟨c0,c1,c2,c3,c4,c5,c6⟩:=HCA.out _ hR0)
             | (go_at_call 29;with_reducible refine (althingref7_num.calls 40 _ _ _ _ _ _ E3.out).mono ?_;rintro e u3 ⟨rfl,hB5⟩;refine rr hR0 hT0 hZ0 hB5 ?_;clear hR0 hT0 hZ0 hB5;intro hR0 hT0 hZ0;obtain ⟨c0,c1,c2,c3,c4,c5,c6⟩:=HCA.out _ hR0)
             | (go_at_call 29;with_reducible refine (althingref7_num.calls 40 _ _ _ _ _ _ E4.out).mono ?_;rintro e u4 ⟨rfl,hB5⟩;refine rr hR0 hT0 hZ0 hB5 ?_;clear hR0 hT0 hZ0 hB5;intro hR0 hT0 hZ0;obtain ⟨c0,c1,c2,c3,c4,c5,c6⟩:=HCA.out _ hR0)
             | (go_at_call 29;with_reducible refine (althingref7_num.calls 40 _ _ _ _ _ _ E5.out).mono ?_;rintro e u5 ⟨rfl,hB5⟩;refine rr hR0 hT0 hZ0 hB5 ?_;clear hR0 hT0 hZ0 hB5;intro hR0 hT0 hZ0;obtain ⟨c0,c1,c2,c3,c4,c5,c6⟩:=HCA.out _ hR0))
            clear c0 c1 c2 c3 c4 c5 c6
            cases bS with
            | true=>
              go_upto_region 11 with (first
              | (go_at_call 30;with_reducible refine (althingref7_names.calls 40 _ _ _ _ ES.out).mono ?_;rintro e u6 ⟨rfl,hB5⟩;refine rr hR0 hT0 hZ0 hB5 ?_;clear hR0 hT0 hZ0 hB5;intro hR0 hT0 hZ0;have hS7:=HCS.out _ hR0))
              obtain ⟨wA,hwA⟩ : ∃ wA,wA = u6:=⟨_,rfl⟩;rw [← hwA] at hR0 hT0 hZ0 ⊢;clear hwA hS7
              cases nV with
              | true=>
                by_cases vk : x.vkind = 0
                ·have vka : decide (x.vkind = 0) = true:=decide_eq_true vk;have vkb : (x.vkind == 0) = true:=beq_iff_eq.2 vk
                 have vkc : (x.vkind != 0) = false:=by simp [vk]
                 have vkd : decide (x.vkind ≠ 0) = false:=decide_eq_false (fun h=>h vk);have VK:=am vk;clear vk;refine start_ (n:=28) (S:=fun w'=>w'.rangeAt g1 0 L) (ds:=[]) (bl 28 0) (by kernel_rfl) rfl rfl ((World.rangeAt_drew wA g1 0 L).2 hR0) (fun hHeld=>?_);refine with_tabW refIsExtR.tab refIsExtR.bits (fun HT_ HW_=>?_);replace hR0 : wA.drew.rangeAt g1 0 L:=hHeld;replace hT0 : Below w.heap.size w wA.drew:=below_drew hT0;replace hZ0 : g1 < wA.drew.heap.size:=hZ0;generalize wA.drew = wq at hR0 hT0 hZ0 hHeld ⊢;refine p_ HT_ 0 (some 62) refIsExtR.l0 ?_;refine p_ HT_ 2 (some 64) refIsExtR.l1 ?_;refine p_ HT_ 3 (some 65) refIsExtR.l2 ?_;refine tk HT_ HW_ hHeld 4 (some 66) refIsExtR.l3 (hr:=by intro w' hs_;obtain ⟨c0,c1,c2,c3,c4,c5⟩:=HCV.out w' hs_;go_simp;with_reducible rfl) (h:=?_);refine p_ HT_ 5 (some 67) refIsExtR.l4 ?_;refine o_ HT_ 1 (some 63) refIsExtR.l5 fun K hK=>?_;refine gs Try.func30 #[.int .i64 x.kind,.int .u8 86] ?_;refine (althingref7_names.calls 40 _ _ _ _ EV.out).mono ?_;rintro e w5 ⟨rfl,hB5⟩;refine ⟨_,rfl,?_⟩;refine rr hR0 hT0 hZ0 hB5 ?_;clear hR0 hT0 hZ0 hB5;intro hR0 hT0 hZ0;refine hK.out _ _ hR0 (fun hHeld=>?_);clear hK K;refine nm (some 63) ?_;refine p_ HT_ 6 (some 68) refIsExtR.l6 ?_;refine p_ HT_ 7 (some 69) refIsExtR.l7 ?_;refine f_ HT_ 8 (some 70) refIsExtR.l8 ?_;refine f_ HT_ 9 (some 71) refIsExtR.l9 ?_;refine f_ HT_ 10 (some 72) refIsExtR.l10 ?_;refine f_ HT_ 11 (some 73) refIsExtR.l11 ?_;refine f_ HT_ 12 (some 74) refIsExtR.l12 ?_;refine f_ HT_ 13 (some 75) refIsExtR.l13 ?_;refine f_ HT_ 14 (some 76) refIsExtR.l14 ?_;refine f_ HT_ 15 (some 77) refIsExtR.l15 ?_;refine p_ HT_ 16 (some 78) refIsExtR.l16 ?_;refine p_ HT_ 17 (some 79) refIsExtR.l17 ?_;refine f_ HT_ 18 (some 80) refIsExtR.l18 ?_;refine f_ HT_ 19 (some 81) refIsExtR.l19 ?_;refine f_ HT_ 20 (some 82) refIsExtR.l20 ?_;refine f_ HT_ 21 (some 83) refIsExtR.l21 ?_;refine f_ HT_ 22 (some 84) refIsExtR.l22 ?_;refine f_ HT_ 23 (some 85) refIsExtR.l23 ?_;refine f_ HT_ 24 (some 86) refIsExtR.l24 ?_;refine f_ HT_ 25 (some 87) refIsExtR.l25 ?_;refine f_ HT_ 26 (some 88) refIsExtR.l26 ?_;refine p_ HT_ 27 (some 89) refIsExtR.l27 ?_;refine done_ (done_of HT_.out (by kernel_rfl)) ?_;clear HT_ HW_ hHeld
                 go_wp2
                 all_goals go_ret
                 all_goals exact ⟨by first | (simp;done) | (simp [vkd];done),hT0⟩
                ·have vka : decide (x.vkind = 0) = false:=decide_eq_false vk;have vkb : (x.vkind == 0) = false:=beq_eq_false_iff_ne.2 vk;have vkc : (x.vkind != 0) = true:=bne_iff_ne.2 vk;have vkd : decide (x.vkind ≠ 0) = true:=decide_eq_true vk
                 cases v5 with
                 | false=>
                   have VK:=am vk;clear vk;refine start_ (n:=28) (S:=fun w'=>w'.rangeAt g1 0 L) (ds:=[]) (bl 28 0) (by kernel_rfl) rfl rfl ((World.rangeAt_drew wA g1 0 L).2 hR0) (fun hHeld=>?_);refine with_tabW refIsExtR.tab refIsExtR.bits (fun HT_ HW_=>?_);replace hR0 : wA.drew.rangeAt g1 0 L:=hHeld;replace hT0 : Below w.heap.size w wA.drew:=below_drew hT0;replace hZ0 : g1 < wA.drew.heap.size:=hZ0;generalize wA.drew = wq at hR0 hT0 hZ0 hHeld ⊢;refine p_ HT_ 0 (some 62) refIsExtR.l0 ?_;refine p_ HT_ 2 (some 64) refIsExtR.l1 ?_;refine p_ HT_ 3 (some 65) refIsExtR.l2 ?_;refine tk HT_ HW_ hHeld 4 (some 66) refIsExtR.l3 (hr:=by intro w' hs_;obtain ⟨c0,c1,c2,c3,c4,c5⟩:=HCV.out w' hs_;go_simp;with_reducible rfl) (h:=?_);refine p_ HT_ 5 (some 67) refIsExtR.l4 ?_;refine o_ HT_ 1 (some 63) refIsExtR.l5 fun K hK=>?_;refine gs Try.func30 #[.int .i64 x.kind,.int .u8 86] ?_;refine (althingref7_names.calls 40 _ _ _ _ EV.out).mono ?_;rintro e w5 ⟨rfl,hB5⟩;refine ⟨_,rfl,?_⟩;refine rr hR0 hT0 hZ0 hB5 ?_;clear hR0 hT0 hZ0 hB5;intro hR0 hT0 hZ0;refine hK.out _ _ hR0 (fun hHeld=>?_);clear hK K;refine nm (some 63) ?_;refine p_ HT_ 6 (some 68) refIsExtR.l6 ?_;refine p_ HT_ 7 (some 69) refIsExtR.l7 ?_;refine p_ HT_ 8 (some 70) refIsExtR.l8 ?_;refine o_ HT_ 9 (some 71) refIsExtR.l9 fun K hK=>?_;refine gs Try.func30 #[.int .i64 x.kind,.int .u8 86] ?_;refine (althingref7_names.calls 40 _ _ _ _ EV.out).mono ?_;rintro e w5 ⟨rfl,hB5⟩;refine ⟨_,rfl,?_⟩;refine rr hR0 hT0 hZ0 hB5 ?_;clear hR0 hT0 hZ0 hB5;intro hR0 hT0 hZ0;refine hK.out _ _ hR0 (fun hHeld=>?_);clear hK K;refine nm (some 71) ?_;refine p_ HT_ 10 (some 72) refIsExtR.l10 ?_;refine p_ HT_ 11 (some 73) refIsExtR.l11 ?_;refine tk HT_ HW_ hHeld 12 (some 74) refIsExtR.l12 (hr:=by intro w' hs_;obtain ⟨c0,c1,c2,c3,c4,c5⟩:=HCV.out w' hs_;go_simp;with_reducible rfl) (h:=?_);refine o_ HT_ 13 (some 75) refIsExtR.l13 fun K hK=>?_;refine gs Try.func31 #[.agg #[.int .i64 x.vkind,.bool x.vaye,.int .i64 x.vlevel,.int .i64 x.va,.int .i64 x.vn,.int .i64 x.vs]] ?_;refine (althingref5_Is.calls 40 _ _ _ _ _ _ _ _ E5v.out).mono ?_;rintro e w5 ⟨rfl,hB5⟩;refine ⟨_,rfl,?_⟩;refine rr hR0 hT0 hZ0 hB5 ?_;clear hR0 hT0 hZ0 hB5;intro hR0 hT0 hZ0;refine hK.out _ _ hR0 (fun hHeld=>?_);clear hK K;refine nm (some 75) ?_;refine p_ HT_ 14 (some 76) refIsExtR.l14 ?_;refine p_ HT_ 15 (some 77) refIsExtR.l15 ?_;refine p_ HT_ 16 (some 78) refIsExtR.l16 ?_;refine p_ HT_ 17 (some 79) refIsExtR.l17 ?_;refine f_ HT_ 18 (some 80) refIsExtR.l18 ?_;refine f_ HT_ 19 (some 81) refIsExtR.l19 ?_;refine f_ HT_ 20 (some 82) refIsExtR.l20 ?_;refine f_ HT_ 21 (some 83) refIsExtR.l21 ?_;refine f_ HT_ 22 (some 84) refIsExtR.l22 ?_;refine f_ HT_ 23 (some 85) refIsExtR.l23 ?_;refine f_ HT_ 24 (some 86) refIsExtR.l24 ?_;refine f_ HT_ 25 (some 87) refIsExtR.l25 ?_;refine f_ HT_ 26 (some 88) refIsExtR.l26 ?_;refine p_ HT_ 27 (some 89) refIsExtR.l27 ?_;refine done_ (done_of HT_.out (by kernel_rfl)) ?_;clear HT_ HW_ hHeld
                   go_wp2
                   all_goals go_ret
                   all_goals exact ⟨by first | (simp;done) | (simp [vkd];done),hT0⟩
                 | true=>
                   have VK:=am vk;clear vk;refine start_ (n:=28) (S:=fun w'=>w'.rangeAt g1 0 L) (ds:=[]) (bl 28 0) (by kernel_rfl) rfl rfl ((World.rangeAt_drew wA g1 0 L).2 hR0) (fun hHeld=>?_);refine with_tabW refIsExtR.tab refIsExtR.bits (fun HT_ HW_=>?_);replace hR0 : wA.drew.rangeAt g1 0 L:=hHeld;replace hT0 : Below w.heap.size w wA.drew:=below_drew hT0;replace hZ0 : g1 < wA.drew.heap.size:=hZ0;generalize wA.drew = wq at hR0 hT0 hZ0 hHeld ⊢;refine p_ HT_ 0 (some 62) refIsExtR.l0 ?_;refine p_ HT_ 2 (some 64) refIsExtR.l1 ?_;refine p_ HT_ 3 (some 65) refIsExtR.l2 ?_;refine tk HT_ HW_ hHeld 4 (some 66) refIsExtR.l3 (hr:=by intro w' hs_;obtain ⟨c0,c1,c2,c3,c4,c5⟩:=HCV.out w' hs_;go_simp;with_reducible rfl) (h:=?_);refine p_ HT_ 5 (some 67) refIsExtR.l4 ?_;refine o_ HT_ 1 (some 63) refIsExtR.l5 fun K hK=>?_;refine gs Try.func30 #[.int .i64 x.kind,.int .u8 86] ?_;refine (althingref7_names.calls 40 _ _ _ _ EV.out).mono ?_;rintro e w5 ⟨rfl,hB5⟩;refine ⟨_,rfl,?_⟩;refine rr hR0 hT0 hZ0 hB5 ?_;clear hR0 hT0 hZ0 hB5;intro hR0 hT0 hZ0;refine hK.out _ _ hR0 (fun hHeld=>?_);clear hK K;refine nm (some 63) ?_;refine p_ HT_ 6 (some 68) refIsExtR.l6 ?_;refine p_ HT_ 7 (some 69) refIsExtR.l7 ?_;refine p_ HT_ 8 (some 70) refIsExtR.l8 ?_;refine o_ HT_ 9 (some 71) refIsExtR.l9 fun K hK=>?_;refine gs Try.func30 #[.int .i64 x.kind,.int .u8 86] ?_;refine (althingref7_names.calls 40 _ _ _ _ EV.out).mono ?_;rintro e w5 ⟨rfl,hB5⟩;refine ⟨_,rfl,?_⟩;refine rr hR0 hT0 hZ0 hB5 ?_;clear hR0 hT0 hZ0 hB5;intro hR0 hT0 hZ0;refine hK.out _ _ hR0 (fun hHeld=>?_);clear hK K;refine nm (some 71) ?_;refine p_ HT_ 10 (some 72) refIsExtR.l10 ?_;refine p_ HT_ 11 (some 73) refIsExtR.l11 ?_;refine tk HT_ HW_ hHeld 12 (some 74) refIsExtR.l12 (hr:=by intro w' hs_;obtain ⟨c0,c1,c2,c3,c4,c5⟩:=HCV.out w' hs_;go_simp;with_reducible rfl) (h:=?_);refine o_ HT_ 13 (some 75) refIsExtR.l13 fun K hK=>?_;refine gs Try.func31 #[.agg #[.int .i64 x.vkind,.bool x.vaye,.int .i64 x.vlevel,.int .i64 x.va,.int .i64 x.vn,.int .i64 x.vs]] ?_;refine (althingref5_Is.calls 40 _ _ _ _ _ _ _ _ E5v.out).mono ?_;rintro e w5 ⟨rfl,hB5⟩;refine ⟨_,rfl,?_⟩;refine rr hR0 hT0 hZ0 hB5 ?_;clear hR0 hT0 hZ0 hB5;intro hR0 hT0 hZ0;refine hK.out _ _ hR0 (fun hHeld=>?_);clear hK K;refine nm (some 75) ?_;refine p_ HT_ 14 (some 76) refIsExtR.l14 ?_;refine p_ HT_ 15 (some 77) refIsExtR.l15 ?_;refine p_ HT_ 16 (some 78) refIsExtR.l16 ?_;refine p_ HT_ 17 (some 79) refIsExtR.l17 ?_;refine p_ HT_ 18 (some 80) refIsExtR.l18 ?_;refine o_ HT_ 19 (some 81) refIsExtR.l19 fun K hK=>?_;refine gs Try.func30 #[.int .i64 x.kind,.int .u8 86] ?_;refine (althingref7_names.calls 40 _ _ _ _ EV.out).mono ?_;rintro e w5 ⟨rfl,hB5⟩;refine ⟨_,rfl,?_⟩;refine rr hR0 hT0 hZ0 hB5 ?_;clear hR0 hT0 hZ0 hB5;intro hR0 hT0 hZ0;refine hK.out _ _ hR0 (fun hHeld=>?_);clear hK K;refine nm (some 81) ?_;refine p_ HT_ 20 (some 82) refIsExtR.l20 ?_;refine p_ HT_ 21 (some 83) refIsExtR.l21 ?_;refine f_ HT_ 22 (some 84) refIsExtR.l22 ?_;refine f_ HT_ 23 (some 85) refIsExtR.l23 ?_;refine f_ HT_ 24 (some 86) refIsExtR.l24 ?_;refine f_ HT_ 25 (some 87) refIsExtR.l25 ?_;refine p_ HT_ 26 (some 88) refIsExtR.l26 ?_;refine p_ HT_ 27 (some 89) refIsExtR.l27 ?_;refine done_ (done_of HT_.out (by kernel_rfl)) ?_;clear HT_ HW_ hHeld;obtain ⟨p0,p1,p2,p3⟩:=HCC.out _ hR0
                   cases nC with
                   | true=>
                     go_wp2_with (first
                      | (go_at_call 30;with_reducible refine (althingref7_names.calls 40 _ _ _ _ EC.out).mono ?_;rintro e u9 ⟨rfl,hB5⟩;refine rr hR0 hT0 hZ0 hB5 ?_;clear hR0 hT0 hZ0 hB5;intro hR0 hT0 hZ0;obtain ⟨q0,q1,q2,q3⟩:=HCC.out _ hR0)
                      | (go_at_call 17;with_reducible refine (althingref7_IsCall.calls 40 _ _ _ A c x.call.f3 cr _ (Kd.C_below HC.out hT0) Hc.out ECR.out).mono ?_;rintro e u10 ⟨rfl,hB5⟩;replace hT0:=below_step hT0 hB5;clear hB5))
                     all_goals go_ret
                     all_goals exact ⟨by first | (simp;done) | (simp [vkd];done),hT0⟩
                   | false=>
                     by_cases k0 : x.call.f0 = 0
                     rotate_left
                     ·have k0a : decide (x.call.f0 = 0) = false:=decide_eq_false k0;have k0b : (x.call.f0 == 0) = false:=beq_eq_false_iff_ne.2 k0
                      go_wp2_with (go_at_call 30;with_reducible refine (althingref7_names.calls 40 _ _ _ _ EC.out).mono ?_;rintro e u9 ⟨rfl,hB5⟩;refine rr hR0 hT0 hZ0 hB5 ?_;clear hR0 hT0 hZ0 hB5;intro hR0 hT0 hZ0;obtain ⟨q0,q1,q2,q3⟩:=HCC.out _ hR0)
                      all_goals go_ret
                      all_goals exact ⟨by first | (simp [k0];done) | (simp [k0,vkd];done),hT0⟩
                     have k0a : decide (x.call.f0 = 0) = true:=decide_eq_true k0;have k0b : (x.call.f0 == 0) = true:=beq_iff_eq.2 k0
                     by_cases k1 : x.call.f1 = 0
                     rotate_left
                     ·have k1a : decide (x.call.f1 = 0) = false:=decide_eq_false k1;have k1b : (x.call.f1 == 0) = false:=beq_eq_false_iff_ne.2 k1
                      go_wp2_with (go_at_call 30;with_reducible refine (althingref7_names.calls 40 _ _ _ _ EC.out).mono ?_;rintro e u9 ⟨rfl,hB5⟩;refine rr hR0 hT0 hZ0 hB5 ?_;clear hR0 hT0 hZ0 hB5;intro hR0 hT0 hZ0;obtain ⟨q0,q1,q2,q3⟩:=HCC.out _ hR0)
                      all_goals go_ret
                      all_goals exact ⟨by first | (simp [k1];done) | (simp [k1,vkd];done),hT0⟩
                     have k1a : decide (x.call.f1 = 0) = true:=decide_eq_true k1;have k1b : (x.call.f1 == 0) = true:=beq_iff_eq.2 k1
                     by_cases k2 : x.call.f2 = 0
                     rotate_left
                     ·have k2a : decide (x.call.f2 = 0) = false:=decide_eq_false k2;have k2b : (x.call.f2 == 0) = false:=beq_eq_false_iff_ne.2 k2
                      go_wp2_with (go_at_call 30;with_reducible refine (althingref7_names.calls 40 _ _ _ _ EC.out).mono ?_;rintro e u9 ⟨rfl,hB5⟩;refine rr hR0 hT0 hZ0 hB5 ?_;clear hR0 hT0 hZ0 hB5;intro hR0 hT0 hZ0;obtain ⟨q0,q1,q2,q3⟩:=HCC.out _ hR0)
                      all_goals go_ret
                      all_goals exact ⟨by first | (simp [k2];done) | (simp [k2,vkd];done),hT0⟩
                     have k2a : decide (x.call.f2 = 0) = true:=decide_eq_true k2;have k2b : (x.call.f2 == 0) = true:=beq_iff_eq.2 k2
                     by_cases k3 : (x.call.f3.length : Int) = 0
                     ·have k3a : decide ((x.call.f3.length : Int) = 0) = true:=decide_eq_true k3;have k3b : ((x.call.f3.length : Int) == 0) = true:=beq_iff_eq.2 k3
                      have k3c : x.call.f3.length = 0:=by omega
                      go_wp2_with (go_at_call 30;with_reducible refine (althingref7_names.calls 40 _ _ _ _ EC.out).mono ?_;rintro e u9 ⟨rfl,hB5⟩;refine rr hR0 hT0 hZ0 hB5 ?_;clear hR0 hT0 hZ0 hB5;intro hR0 hT0 hZ0;obtain ⟨q0,q1,q2,q3⟩:=HCC.out _ hR0)
                      all_goals go_ret
                      all_goals exact ⟨by first | (simp [k0,k1,k2,k3c];done) | (simp [k0,k1,k2,k3c,vkd];done),hT0⟩
                     ·have k3a : decide ((x.call.f3.length : Int) = 0) = false:=decide_eq_false k3;have k3b : ((x.call.f3.length : Int) == 0) = false:=beq_eq_false_iff_ne.2 k3
                      have k3c : ¬ x.call.f3.length = 0:=by omega
                      go_wp2_with (go_at_call 30;with_reducible refine (althingref7_names.calls 40 _ _ _ _ EC.out).mono ?_;rintro e u9 ⟨rfl,hB5⟩;refine rr hR0 hT0 hZ0 hB5 ?_;clear hR0 hT0 hZ0 hB5;intro hR0 hT0 hZ0;obtain ⟨q0,q1,q2,q3⟩:=HCC.out _ hR0)
                      all_goals go_ret
                      all_goals exact ⟨by first | (simp [k3c];done) | (simp [k3c,vkd];done),hT0⟩
              | false=>
                by_cases vk : x.vkind = 0
                rotate_left
                ·have vka : decide (x.vkind = 0) = false:=decide_eq_false vk;have vkb : (x.vkind == 0) = false:=beq_eq_false_iff_ne.2 vk;have vkc : (x.vkind != 0) = true:=bne_iff_ne.2 vk;have vkd : decide (x.vkind ≠ 0) = true:=decide_eq_true vk;have VK:=am vk;clear vk;refine start_ (n:=28) (S:=fun w'=>w'.rangeAt g1 0 L) (ds:=[]) (bl 28 0) (by kernel_rfl) rfl rfl ((World.rangeAt_drew wA g1 0 L).2 hR0) (fun hHeld=>?_);refine with_tabW refIsExtR.tab refIsExtR.bits (fun HT_ HW_=>?_);replace hR0 : wA.drew.rangeAt g1 0 L:=hHeld;replace hT0 : Below w.heap.size w wA.drew:=below_drew hT0;replace hZ0 : g1 < wA.drew.heap.size:=hZ0;generalize wA.drew = wq at hR0 hT0 hZ0 hHeld ⊢;refine p_ HT_ 0 (some 62) refIsExtR.l0 ?_;refine p_ HT_ 2 (some 64) refIsExtR.l1 ?_;refine p_ HT_ 3 (some 65) refIsExtR.l2 ?_;refine tk HT_ HW_ hHeld 4 (some 66) refIsExtR.l3 (hr:=by intro w' hs_;obtain ⟨c0,c1,c2,c3,c4,c5⟩:=HCV.out w' hs_;go_simp;with_reducible rfl) (h:=?_);refine p_ HT_ 5 (some 67) refIsExtR.l4 ?_;refine o_ HT_ 1 (some 63) refIsExtR.l5 fun K hK=>?_;refine gs Try.func30 #[.int .i64 x.kind,.int .u8 86] ?_;refine (althingref7_names.calls 40 _ _ _ _ EV.out).mono ?_;rintro e w5 ⟨rfl,hB5⟩;refine ⟨_,rfl,?_⟩;refine rr hR0 hT0 hZ0 hB5 ?_;clear hR0 hT0 hZ0 hB5;intro hR0 hT0 hZ0;refine hK.out _ _ hR0 (fun hHeld=>?_);clear hK K;refine nm (some 63) ?_;refine p_ HT_ 6 (some 68) refIsExtR.l6 ?_;refine p_ HT_ 7 (some 69) refIsExtR.l7 ?_;refine f_ HT_ 8 (some 70) refIsExtR.l8 ?_;refine f_ HT_ 9 (some 71) refIsExtR.l9 ?_;refine f_ HT_ 10 (some 72) refIsExtR.l10 ?_;refine f_ HT_ 11 (some 73) refIsExtR.l11 ?_;refine f_ HT_ 12 (some 74) refIsExtR.l12 ?_;refine f_ HT_ 13 (some 75) refIsExtR.l13 ?_;refine f_ HT_ 14 (some 76) refIsExtR.l14 ?_;refine f_ HT_ 15 (some 77) refIsExtR.l15 ?_;refine p_ HT_ 16 (some 78) refIsExtR.l16 ?_;refine p_ HT_ 17 (some 79) refIsExtR.l17 ?_;refine f_ HT_ 18 (some 80) refIsExtR.l18 ?_;refine f_ HT_ 19 (some 81) refIsExtR.l19 ?_;refine f_ HT_ 20 (some 82) refIsExtR.l20 ?_;refine f_ HT_ 21 (some 83) refIsExtR.l21 ?_;refine f_ HT_ 22 (some 84) refIsExtR.l22 ?_;refine f_ HT_ 23 (some 85) refIsExtR.l23 ?_;refine f_ HT_ 24 (some 86) refIsExtR.l24 ?_;refine f_ HT_ 25 (some 87) refIsExtR.l25 ?_;refine f_ HT_ 26 (some 88) refIsExtR.l26 ?_;refine p_ HT_ 27 (some 89) refIsExtR.l27 ?_;refine done_ (done_of HT_.out (by kernel_rfl)) ?_;clear HT_ HW_ hHeld
                 go_wp2
                 all_goals go_ret
                 all_goals exact ⟨by first | (simp;done) | (simp [vkd];done),hT0⟩
                have vka : decide (x.vkind = 0) = true:=decide_eq_true vk;have vkb : (x.vkind == 0) = true:=beq_iff_eq.2 vk
                have vkc : (x.vkind != 0) = false:=by simp [vk]
                have vkd : decide (x.vkind ≠ 0) = false:=decide_eq_false (fun h=>h vk)
                cases zV with
                | true=>
                  have VK:=am vk;clear vk;refine start_ (n:=28) (S:=fun w'=>w'.rangeAt g1 0 L) (ds:=[]) (bl 28 0) (by kernel_rfl) rfl rfl ((World.rangeAt_drew wA g1 0 L).2 hR0) (fun hHeld=>?_);refine with_tabW refIsExtR.tab refIsExtR.bits (fun HT_ HW_=>?_);replace hR0 : wA.drew.rangeAt g1 0 L:=hHeld;replace hT0 : Below w.heap.size w wA.drew:=below_drew hT0;replace hZ0 : g1 < wA.drew.heap.size:=hZ0;generalize wA.drew = wq at hR0 hT0 hZ0 hHeld ⊢;refine p_ HT_ 0 (some 62) refIsExtR.l0 ?_;refine p_ HT_ 2 (some 64) refIsExtR.l1 ?_;refine p_ HT_ 3 (some 65) refIsExtR.l2 ?_;refine tk HT_ HW_ hHeld 4 (some 66) refIsExtR.l3 (hr:=by intro w' hs_;obtain ⟨c0,c1,c2,c3,c4,c5⟩:=HCV.out w' hs_;go_simp;with_reducible rfl) (h:=?_);refine p_ HT_ 5 (some 67) refIsExtR.l4 ?_;refine o_ HT_ 1 (some 63) refIsExtR.l5 fun K hK=>?_;refine gs Try.func30 #[.int .i64 x.kind,.int .u8 86] ?_;refine (althingref7_names.calls 40 _ _ _ _ EV.out).mono ?_;rintro e w5 ⟨rfl,hB5⟩;refine ⟨_,rfl,?_⟩;refine rr hR0 hT0 hZ0 hB5 ?_;clear hR0 hT0 hZ0 hB5;intro hR0 hT0 hZ0;refine hK.out _ _ hR0 (fun hHeld=>?_);clear hK K;refine nm (some 63) ?_;refine p_ HT_ 6 (some 68) refIsExtR.l6 ?_;refine p_ HT_ 7 (some 69) refIsExtR.l7 ?_;refine p_ HT_ 8 (some 70) refIsExtR.l8 ?_;refine o_ HT_ 9 (some 71) refIsExtR.l9 fun K hK=>?_;refine gs Try.func30 #[.int .i64 x.kind,.int .u8 86] ?_;refine (althingref7_names.calls 40 _ _ _ _ EV.out).mono ?_;rintro e w5 ⟨rfl,hB5⟩;refine ⟨_,rfl,?_⟩;refine rr hR0 hT0 hZ0 hB5 ?_;clear hR0 hT0 hZ0 hB5;intro hR0 hT0 hZ0;refine hK.out _ _ hR0 (fun hHeld=>?_);clear hK K;refine nm (some 71) ?_;refine p_ HT_ 10 (some 72) refIsExtR.l10 ?_;refine f_ HT_ 11 (some 73) refIsExtR.l11 ?_;refine f_ HT_ 12 (some 74) refIsExtR.l12 ?_;refine f_ HT_ 13 (some 75) refIsExtR.l13 ?_;refine f_ HT_ 14 (some 76) refIsExtR.l14 ?_;refine p_ HT_ 15 (some 77) refIsExtR.l15 ?_;refine p_ HT_ 16 (some 78) refIsExtR.l16 ?_;refine p_ HT_ 17 (some 79) refIsExtR.l17 ?_;refine p_ HT_ 18 (some 80) refIsExtR.l18 ?_;refine o_ HT_ 19 (some 81) refIsExtR.l19 fun K hK=>?_;refine gs Try.func30 #[.int .i64 x.kind,.int .u8 86] ?_;refine (althingref7_names.calls 40 _ _ _ _ EV.out).mono ?_;rintro e w5 ⟨rfl,hB5⟩;refine ⟨_,rfl,?_⟩;refine rr hR0 hT0 hZ0 hB5 ?_;clear hR0 hT0 hZ0 hB5;intro hR0 hT0 hZ0;refine hK.out _ _ hR0 (fun hHeld=>?_);clear hK K;refine nm (some 81) ?_;refine p_ HT_ 20 (some 82) refIsExtR.l20 ?_;refine p_ HT_ 21 (some 83) refIsExtR.l21 ?_;refine p_ HT_ 22 (some 84) refIsExtR.l22 ?_;refine tk HT_ HW_ hHeld 23 (some 85) refIsExtR.l23 (hr:=by intro w' hs_;obtain ⟨c0,c1,c2,c3,c4,c5⟩:=HCV.out w' hs_;go_simp;with_reducible rfl) (h:=?_);refine pure_ (i:=24) (N:=some 86) (v:= .agg VZ) (a':=?_) refIsExtR.l24 rfl rfl (any_of HT_.out (by kernel_rfl)) (fun _ _ _ h=>h) (Or.inl ⟨by rfl,?_⟩) ?_ ?_
                  ·intro w';exact build_run0 rfl (HBV.out w')
                  rotate_left
                  ·simp only [Act.put,List.setIfInBounds_toArray,List.set_cons_zero,List.set_cons_succ,i64_w,i32_w]
                   rfl
                  refine pure_ (i:=25) (N:=some 87) (v:= .bool true) (a':=?_) refIsExtR.l25 rfl rfl (any_of HT_.out (by kernel_rfl)) (fun _ _ _ h=>h) (Or.inl ⟨by rfl,?_⟩) ?_ ?_
                  ·intro w';exact neq_run (x:= .tmp 85) (y:= .tmp 86) rfl rfl rfl guard_vote (HZV.out w')
                  rotate_left
                  ·simp only [Act.put,List.setIfInBounds_toArray,List.set_cons_zero,List.set_cons_succ,i64_w,i32_w]
                   rfl
                  refine p_ HT_ 26 (some 88) refIsExtR.l26 ?_;refine p_ HT_ 27 (some 89) refIsExtR.l27 ?_;refine done_ (done_of HT_.out (by kernel_rfl)) ?_;clear HT_ HW_ hHeld
                  go_wp2
                  all_goals go_ret
                  all_goals exact ⟨by first | (simp;done) | (simp [vkd];done),hT0⟩
                | false=>
                  have VK:=am vk;clear vk;refine start_ (n:=28) (S:=fun w'=>w'.rangeAt g1 0 L) (ds:=[]) (bl 28 0) (by kernel_rfl) rfl rfl ((World.rangeAt_drew wA g1 0 L).2 hR0) (fun hHeld=>?_);refine with_tabW refIsExtR.tab refIsExtR.bits (fun HT_ HW_=>?_);replace hR0 : wA.drew.rangeAt g1 0 L:=hHeld;replace hT0 : Below w.heap.size w wA.drew:=below_drew hT0;replace hZ0 : g1 < wA.drew.heap.size:=hZ0;generalize wA.drew = wq at hR0 hT0 hZ0 hHeld ⊢;refine p_ HT_ 0 (some 62) refIsExtR.l0 ?_;refine p_ HT_ 2 (some 64) refIsExtR.l1 ?_;refine p_ HT_ 3 (some 65) refIsExtR.l2 ?_;refine tk HT_ HW_ hHeld 4 (some 66) refIsExtR.l3 (hr:=by intro w' hs_;obtain ⟨c0,c1,c2,c3,c4,c5⟩:=HCV.out w' hs_;go_simp;with_reducible rfl) (h:=?_);refine p_ HT_ 5 (some 67) refIsExtR.l4 ?_;refine o_ HT_ 1 (some 63) refIsExtR.l5 fun K hK=>?_;refine gs Try.func30 #[.int .i64 x.kind,.int .u8 86] ?_;refine (althingref7_names.calls 40 _ _ _ _ EV.out).mono ?_;rintro e w5 ⟨rfl,hB5⟩;refine ⟨_,rfl,?_⟩;refine rr hR0 hT0 hZ0 hB5 ?_;clear hR0 hT0 hZ0 hB5;intro hR0 hT0 hZ0;refine hK.out _ _ hR0 (fun hHeld=>?_);clear hK K;refine nm (some 63) ?_;refine p_ HT_ 6 (some 68) refIsExtR.l6 ?_;refine p_ HT_ 7 (some 69) refIsExtR.l7 ?_;refine p_ HT_ 8 (some 70) refIsExtR.l8 ?_;refine o_ HT_ 9 (some 71) refIsExtR.l9 fun K hK=>?_;refine gs Try.func30 #[.int .i64 x.kind,.int .u8 86] ?_;refine (althingref7_names.calls 40 _ _ _ _ EV.out).mono ?_;rintro e w5 ⟨rfl,hB5⟩;refine ⟨_,rfl,?_⟩;refine rr hR0 hT0 hZ0 hB5 ?_;clear hR0 hT0 hZ0 hB5;intro hR0 hT0 hZ0;refine hK.out _ _ hR0 (fun hHeld=>?_);clear hK K;refine nm (some 71) ?_;refine p_ HT_ 10 (some 72) refIsExtR.l10 ?_;refine f_ HT_ 11 (some 73) refIsExtR.l11 ?_;refine f_ HT_ 12 (some 74) refIsExtR.l12 ?_;refine f_ HT_ 13 (some 75) refIsExtR.l13 ?_;refine f_ HT_ 14 (some 76) refIsExtR.l14 ?_;refine p_ HT_ 15 (some 77) refIsExtR.l15 ?_;refine p_ HT_ 16 (some 78) refIsExtR.l16 ?_;refine p_ HT_ 17 (some 79) refIsExtR.l17 ?_;refine p_ HT_ 18 (some 80) refIsExtR.l18 ?_;refine o_ HT_ 19 (some 81) refIsExtR.l19 fun K hK=>?_;refine gs Try.func30 #[.int .i64 x.kind,.int .u8 86] ?_;refine (althingref7_names.calls 40 _ _ _ _ EV.out).mono ?_;rintro e w5 ⟨rfl,hB5⟩;refine ⟨_,rfl,?_⟩;refine rr hR0 hT0 hZ0 hB5 ?_;clear hR0 hT0 hZ0 hB5;intro hR0 hT0 hZ0;refine hK.out _ _ hR0 (fun hHeld=>?_);clear hK K;refine nm (some 81) ?_;refine p_ HT_ 20 (some 82) refIsExtR.l20 ?_;refine p_ HT_ 21 (some 83) refIsExtR.l21 ?_;refine p_ HT_ 22 (some 84) refIsExtR.l22 ?_;refine tk HT_ HW_ hHeld 23 (some 85) refIsExtR.l23 (hr:=by intro w' hs_;obtain ⟨c0,c1,c2,c3,c4,c5⟩:=HCV.out w' hs_;go_simp;with_reducible rfl) (h:=?_);refine pure_ (i:=24) (N:=some 86) (v:= .agg VZ) (a':=?_) refIsExtR.l24 rfl rfl (any_of HT_.out (by kernel_rfl)) (fun _ _ _ h=>h) (Or.inl ⟨by rfl,?_⟩) ?_ ?_
                  ·intro w';exact build_run0 rfl (HBV.out w')
                  rotate_left
                  ·simp only [Act.put,List.setIfInBounds_toArray,List.set_cons_zero,List.set_cons_succ,i64_w,i32_w]
                   rfl
                  refine pure_ (i:=25) (N:=some 87) (v:= .bool false) (a':=?_) refIsExtR.l25 rfl rfl (any_of HT_.out (by kernel_rfl)) (fun _ _ _ h=>h) (Or.inl ⟨by rfl,?_⟩) ?_ ?_
                  ·intro w';exact neq_run (x:= .tmp 85) (y:= .tmp 86) rfl rfl rfl guard_vote (HZV.out w')
                  rotate_left
                  ·simp only [Act.put,List.setIfInBounds_toArray,List.set_cons_zero,List.set_cons_succ,i64_w,i32_w]
                   rfl
                  refine p_ HT_ 26 (some 88) refIsExtR.l26 ?_;refine p_ HT_ 27 (some 89) refIsExtR.l27 ?_;refine done_ (done_of HT_.out (by kernel_rfl)) ?_;clear HT_ HW_ hHeld;obtain ⟨p0,p1,p2,p3⟩:=HCC.out _ hR0
                  cases nC with
                  | true=>
                    go_wp2_with (first
                     | (go_at_call 30;with_reducible refine (althingref7_names.calls 40 _ _ _ _ EC.out).mono ?_;rintro e u9 ⟨rfl,hB5⟩;refine rr hR0 hT0 hZ0 hB5 ?_;clear hR0 hT0 hZ0 hB5;intro hR0 hT0 hZ0;obtain ⟨q0,q1,q2,q3⟩:=HCC.out _ hR0)
                     | (go_at_call 17;with_reducible refine (althingref7_IsCall.calls 40 _ _ _ A c x.call.f3 cr _ (Kd.C_below HC.out hT0) Hc.out ECR.out).mono ?_;rintro e u10 ⟨rfl,hB5⟩;replace hT0:=below_step hT0 hB5;clear hB5))
                    all_goals go_ret
                    all_goals exact ⟨by first | (simp;done) | (simp [vkd];done),hT0⟩
                  | false=>
                    by_cases k0 : x.call.f0 = 0
                    rotate_left
                    ·have k0a : decide (x.call.f0 = 0) = false:=decide_eq_false k0;have k0b : (x.call.f0 == 0) = false:=beq_eq_false_iff_ne.2 k0
                     go_wp2_with (go_at_call 30;with_reducible refine (althingref7_names.calls 40 _ _ _ _ EC.out).mono ?_;rintro e u9 ⟨rfl,hB5⟩;refine rr hR0 hT0 hZ0 hB5 ?_;clear hR0 hT0 hZ0 hB5;intro hR0 hT0 hZ0;obtain ⟨q0,q1,q2,q3⟩:=HCC.out _ hR0)
                     all_goals go_ret
                     all_goals exact ⟨by first | (simp [k0];done) | (simp [k0,vkd];done),hT0⟩
                    have k0a : decide (x.call.f0 = 0) = true:=decide_eq_true k0;have k0b : (x.call.f0 == 0) = true:=beq_iff_eq.2 k0
                    by_cases k1 : x.call.f1 = 0
                    rotate_left
                    ·have k1a : decide (x.call.f1 = 0) = false:=decide_eq_false k1;have k1b : (x.call.f1 == 0) = false:=beq_eq_false_iff_ne.2 k1
                     go_wp2_with (go_at_call 30;with_reducible refine (althingref7_names.calls 40 _ _ _ _ EC.out).mono ?_;rintro e u9 ⟨rfl,hB5⟩;refine rr hR0 hT0 hZ0 hB5 ?_;clear hR0 hT0 hZ0 hB5;intro hR0 hT0 hZ0;obtain ⟨q0,q1,q2,q3⟩:=HCC.out _ hR0)
                     all_goals go_ret
                     all_goals exact ⟨by first | (simp [k1];done) | (simp [k1,vkd];done),hT0⟩
                    have k1a : decide (x.call.f1 = 0) = true:=decide_eq_true k1;have k1b : (x.call.f1 == 0) = true:=beq_iff_eq.2 k1
                    by_cases k2 : x.call.f2 = 0
                    rotate_left
                    ·have k2a : decide (x.call.f2 = 0) = false:=decide_eq_false k2;have k2b : (x.call.f2 == 0) = false:=beq_eq_false_iff_ne.2 k2
                     go_wp2_with (go_at_call 30;with_reducible refine (althingref7_names.calls 40 _ _ _ _ EC.out).mono ?_;rintro e u9 ⟨rfl,hB5⟩;refine rr hR0 hT0 hZ0 hB5 ?_;clear hR0 hT0 hZ0 hB5;intro hR0 hT0 hZ0;obtain ⟨q0,q1,q2,q3⟩:=HCC.out _ hR0)
                     all_goals go_ret
                     all_goals exact ⟨by first | (simp [k2];done) | (simp [k2,vkd];done),hT0⟩
                    have k2a : decide (x.call.f2 = 0) = true:=decide_eq_true k2;have k2b : (x.call.f2 == 0) = true:=beq_iff_eq.2 k2
                    by_cases k3 : (x.call.f3.length : Int) = 0
                    ·have k3a : decide ((x.call.f3.length : Int) = 0) = true:=decide_eq_true k3;have k3b : ((x.call.f3.length : Int) == 0) = true:=beq_iff_eq.2 k3
                     have k3c : x.call.f3.length = 0:=by omega
                     go_wp2_with (go_at_call 30;with_reducible refine (althingref7_names.calls 40 _ _ _ _ EC.out).mono ?_;rintro e u9 ⟨rfl,hB5⟩;refine rr hR0 hT0 hZ0 hB5 ?_;clear hR0 hT0 hZ0 hB5;intro hR0 hT0 hZ0;obtain ⟨q0,q1,q2,q3⟩:=HCC.out _ hR0)
                     all_goals go_ret
                     all_goals exact ⟨by first | (simp [k0,k1,k2,k3c];done) | (simp [k0,k1,k2,k3c,vkd];done),hT0⟩
                    ·have k3a : decide ((x.call.f3.length : Int) = 0) = false:=decide_eq_false k3;have k3b : ((x.call.f3.length : Int) == 0) = false:=beq_eq_false_iff_ne.2 k3
                     have k3c : ¬ x.call.f3.length = 0:=by omega
                     go_wp2_with (go_at_call 30;with_reducible refine (althingref7_names.calls 40 _ _ _ _ EC.out).mono ?_;rintro e u9 ⟨rfl,hB5⟩;refine rr hR0 hT0 hZ0 hB5 ?_;clear hR0 hT0 hZ0 hB5;intro hR0 hT0 hZ0;obtain ⟨q0,q1,q2,q3⟩:=HCC.out _ hR0)
                     all_goals go_ret
                     all_goals exact ⟨by first | (simp [k3c];done) | (simp [k3c,vkd];done),hT0⟩
            | false=>
              cases zS with
              | true=>
                go_wp2_with (first
              | (go_at_call 30;with_reducible refine (althingref7_names.calls 40 _ _ _ _ ES.out).mono ?_;rintro e u6 ⟨rfl,hB5⟩;refine rr hR0 hT0 hZ0 hB5 ?_;clear hR0 hT0 hZ0 hB5;intro hR0 hT0 hZ0;have hS7:=HCS.out _ hR0)
              | ((with_reducible refine gate_dst (N:=58) rfl ?_);refine gate_guard (by rfl) ?_;refine wpList_load_mid rfl 29 _ rfl g1 7 rfl SL _ hS7 Try.underlying29 rfl (by rw [HSLl.out];exact info_hash) ?_)
              | ((with_reducible refine gate_dst (N:=59) rfl ?_);refine gate_guard (by rfl) ?_;refine Kd.event_run (v:= .agg ZL.toArray) (w1:=u6) rfl (build_run0 rfl (HBZ.out u6)) ?_)
              | ((with_reducible refine gate_dst (N:=60) rfl ?_);refine gate_guard (by rfl) ?_;refine Kd.event_run (v:= .bool _) (w1:=u6) rfl (neq_run (x:= .tmp 58) (y:= .tmp 59) rfl rfl rfl guard_sum (HZS.out u6)) ?_))
                all_goals go_ret
                all_goals exact ⟨by first | (simp;done) | (simp [vkd];done),hT0⟩
              | false=>
                go_upto_region 11 with (first
              | (go_at_call 30;with_reducible refine (althingref7_names.calls 40 _ _ _ _ ES.out).mono ?_;rintro e u6 ⟨rfl,hB5⟩;refine rr hR0 hT0 hZ0 hB5 ?_;clear hR0 hT0 hZ0 hB5;intro hR0 hT0 hZ0;have hS7:=HCS.out _ hR0)
              | ((with_reducible refine gate_dst (N:=58) rfl ?_);refine gate_guard (by rfl) ?_;refine wpList_load_mid rfl 29 _ rfl g1 7 rfl SL _ hS7 Try.underlying29 rfl (by rw [HSLl.out];exact info_hash) ?_)
              | ((with_reducible refine gate_dst (N:=59) rfl ?_);refine gate_guard (by rfl) ?_;refine Kd.event_run (v:= .agg ZL.toArray) (w1:=u6) rfl (build_run0 rfl (HBZ.out u6)) ?_)
              | ((with_reducible refine gate_dst (N:=60) rfl ?_);refine gate_guard (by rfl) ?_;refine Kd.event_run (v:= .bool _) (w1:=u6) rfl (neq_run (x:= .tmp 58) (y:= .tmp 59) rfl rfl rfl guard_sum (HZS.out u6)) ?_))
                obtain ⟨wA,hwA⟩ : ∃ wA,wA = u6:=⟨_,rfl⟩;rw [← hwA] at hR0 hT0 hZ0 ⊢;clear hwA hS7
                cases nV with
                | true=>
                  by_cases vk : x.vkind = 0
                  ·have vka : decide (x.vkind = 0) = true:=decide_eq_true vk;have vkb : (x.vkind == 0) = true:=beq_iff_eq.2 vk
                   have vkc : (x.vkind != 0) = false:=by simp [vk]
                   have vkd : decide (x.vkind ≠ 0) = false:=decide_eq_false (fun h=>h vk);have VK:=am vk;clear vk;refine start_ (n:=28) (S:=fun w'=>w'.rangeAt g1 0 L) (ds:=[]) (bl 28 0) (by kernel_rfl) rfl rfl ((World.rangeAt_drew wA g1 0 L).2 hR0) (fun hHeld=>?_);refine with_tabW refIsExtR.tab refIsExtR.bits (fun HT_ HW_=>?_);replace hR0 : wA.drew.rangeAt g1 0 L:=hHeld;replace hT0 : Below w.heap.size w wA.drew:=below_drew hT0;replace hZ0 : g1 < wA.drew.heap.size:=hZ0;generalize wA.drew = wq at hR0 hT0 hZ0 hHeld ⊢;refine p_ HT_ 0 (some 62) refIsExtR.l0 ?_;refine p_ HT_ 2 (some 64) refIsExtR.l1 ?_;refine p_ HT_ 3 (some 65) refIsExtR.l2 ?_;refine tk HT_ HW_ hHeld 4 (some 66) refIsExtR.l3 (hr:=by intro w' hs_;obtain ⟨c0,c1,c2,c3,c4,c5⟩:=HCV.out w' hs_;go_simp;with_reducible rfl) (h:=?_);refine p_ HT_ 5 (some 67) refIsExtR.l4 ?_;refine o_ HT_ 1 (some 63) refIsExtR.l5 fun K hK=>?_;refine gs Try.func30 #[.int .i64 x.kind,.int .u8 86] ?_;refine (althingref7_names.calls 40 _ _ _ _ EV.out).mono ?_;rintro e w5 ⟨rfl,hB5⟩;refine ⟨_,rfl,?_⟩;refine rr hR0 hT0 hZ0 hB5 ?_;clear hR0 hT0 hZ0 hB5;intro hR0 hT0 hZ0;refine hK.out _ _ hR0 (fun hHeld=>?_);clear hK K;refine nm (some 63) ?_;refine p_ HT_ 6 (some 68) refIsExtR.l6 ?_;refine p_ HT_ 7 (some 69) refIsExtR.l7 ?_;refine f_ HT_ 8 (some 70) refIsExtR.l8 ?_;refine f_ HT_ 9 (some 71) refIsExtR.l9 ?_;refine f_ HT_ 10 (some 72) refIsExtR.l10 ?_;refine f_ HT_ 11 (some 73) refIsExtR.l11 ?_;refine f_ HT_ 12 (some 74) refIsExtR.l12 ?_;refine f_ HT_ 13 (some 75) refIsExtR.l13 ?_;refine f_ HT_ 14 (some 76) refIsExtR.l14 ?_;refine f_ HT_ 15 (some 77) refIsExtR.l15 ?_;refine p_ HT_ 16 (some 78) refIsExtR.l16 ?_;refine p_ HT_ 17 (some 79) refIsExtR.l17 ?_;refine f_ HT_ 18 (some 80) refIsExtR.l18 ?_;refine f_ HT_ 19 (some 81) refIsExtR.l19 ?_;refine f_ HT_ 20 (some 82) refIsExtR.l20 ?_;refine f_ HT_ 21 (some 83) refIsExtR.l21 ?_;refine f_ HT_ 22 (some 84) refIsExtR.l22 ?_;refine f_ HT_ 23 (some 85) refIsExtR.l23 ?_;refine f_ HT_ 24 (some 86) refIsExtR.l24 ?_;refine f_ HT_ 25 (some 87) refIsExtR.l25 ?_;refine f_ HT_ 26 (some 88) refIsExtR.l26 ?_;refine p_ HT_ 27 (some 89) refIsExtR.l27 ?_;refine done_ (done_of HT_.out (by kernel_rfl)) ?_;clear HT_ HW_ hHeld
                   go_wp2
                   all_goals go_ret
                   all_goals exact ⟨by first | (simp;done) | (simp [vkd];done),hT0⟩
                  ·have vka : decide (x.vkind = 0) = false:=decide_eq_false vk;have vkb : (x.vkind == 0) = false:=beq_eq_false_iff_ne.2 vk;have vkc : (x.vkind != 0) = true:=bne_iff_ne.2 vk;have vkd : decide (x.vkind ≠ 0) = true:=decide_eq_true vk
                   cases v5 with
                   | false=>
                     have VK:=am vk;clear vk;refine start_ (n:=28) (S:=fun w'=>w'.rangeAt g1 0 L) (ds:=[]) (bl 28 0) (by kernel_rfl) rfl rfl ((World.rangeAt_drew wA g1 0 L).2 hR0) (fun hHeld=>?_);refine with_tabW refIsExtR.tab refIsExtR.bits (fun HT_ HW_=>?_);replace hR0 : wA.drew.rangeAt g1 0 L:=hHeld;replace hT0 : Below w.heap.size w wA.drew:=below_drew hT0;replace hZ0 : g1 < wA.drew.heap.size:=hZ0;generalize wA.drew = wq at hR0 hT0 hZ0 hHeld ⊢;refine p_ HT_ 0 (some 62) refIsExtR.l0 ?_;refine p_ HT_ 2 (some 64) refIsExtR.l1 ?_;refine p_ HT_ 3 (some 65) refIsExtR.l2 ?_;refine tk HT_ HW_ hHeld 4 (some 66) refIsExtR.l3 (hr:=by intro w' hs_;obtain ⟨c0,c1,c2,c3,c4,c5⟩:=HCV.out w' hs_;go_simp;with_reducible rfl) (h:=?_);refine p_ HT_ 5 (some 67) refIsExtR.l4 ?_;refine o_ HT_ 1 (some 63) refIsExtR.l5 fun K hK=>?_;refine gs Try.func30 #[.int .i64 x.kind,.int .u8 86] ?_;refine (althingref7_names.calls 40 _ _ _ _ EV.out).mono ?_;rintro e w5 ⟨rfl,hB5⟩;refine ⟨_,rfl,?_⟩;refine rr hR0 hT0 hZ0 hB5 ?_;clear hR0 hT0 hZ0 hB5;intro hR0 hT0 hZ0;refine hK.out _ _ hR0 (fun hHeld=>?_);clear hK K;refine nm (some 63) ?_;refine p_ HT_ 6 (some 68) refIsExtR.l6 ?_;refine p_ HT_ 7 (some 69) refIsExtR.l7 ?_;refine p_ HT_ 8 (some 70) refIsExtR.l8 ?_;refine o_ HT_ 9 (some 71) refIsExtR.l9 fun K hK=>?_;refine gs Try.func30 #[.int .i64 x.kind,.int .u8 86] ?_;refine (althingref7_names.calls 40 _ _ _ _ EV.out).mono ?_;rintro e w5 ⟨rfl,hB5⟩;refine ⟨_,rfl,?_⟩;refine rr hR0 hT0 hZ0 hB5 ?_;clear hR0 hT0 hZ0 hB5;intro hR0 hT0 hZ0;refine hK.out _ _ hR0 (fun hHeld=>?_);clear hK K;refine nm (some 71) ?_;refine p_ HT_ 10 (some 72) refIsExtR.l10 ?_;refine p_ HT_ 11 (some 73) refIsExtR.l11 ?_;refine tk HT_ HW_ hHeld 12 (some 74) refIsExtR.l12 (hr:=by intro w' hs_;obtain ⟨c0,c1,c2,c3,c4,c5⟩:=HCV.out w' hs_;go_simp;with_reducible rfl) (h:=?_);refine o_ HT_ 13 (some 75) refIsExtR.l13 fun K hK=>?_;refine gs Try.func31 #[.agg #[.int .i64 x.vkind,.bool x.vaye,.int .i64 x.vlevel,.int .i64 x.va,.int .i64 x.vn,.int .i64 x.vs]] ?_;refine (althingref5_Is.calls 40 _ _ _ _ _ _ _ _ E5v.out).mono ?_;rintro e w5 ⟨rfl,hB5⟩;refine ⟨_,rfl,?_⟩;refine rr hR0 hT0 hZ0 hB5 ?_;clear hR0 hT0 hZ0 hB5;intro hR0 hT0 hZ0;refine hK.out _ _ hR0 (fun hHeld=>?_);clear hK K;refine nm (some 75) ?_;refine p_ HT_ 14 (some 76) refIsExtR.l14 ?_;refine p_ HT_ 15 (some 77) refIsExtR.l15 ?_;refine p_ HT_ 16 (some 78) refIsExtR.l16 ?_;refine p_ HT_ 17 (some 79) refIsExtR.l17 ?_;refine f_ HT_ 18 (some 80) refIsExtR.l18 ?_;refine f_ HT_ 19 (some 81) refIsExtR.l19 ?_;refine f_ HT_ 20 (some 82) refIsExtR.l20 ?_;refine f_ HT_ 21 (some 83) refIsExtR.l21 ?_;refine f_ HT_ 22 (some 84) refIsExtR.l22 ?_;refine f_ HT_ 23 (some 85) refIsExtR.l23 ?_;refine f_ HT_ 24 (some 86) refIsExtR.l24 ?_;refine f_ HT_ 25 (some 87) refIsExtR.l25 ?_;refine f_ HT_ 26 (some 88) refIsExtR.l26 ?_;refine p_ HT_ 27 (some 89) refIsExtR.l27 ?_;refine done_ (done_of HT_.out (by kernel_rfl)) ?_;clear HT_ HW_ hHeld
                     go_wp2
                     all_goals go_ret
                     all_goals exact ⟨by first | (simp;done) | (simp [vkd];done),hT0⟩
                   | true=>
                     have VK:=am vk;clear vk;refine start_ (n:=28) (S:=fun w'=>w'.rangeAt g1 0 L) (ds:=[]) (bl 28 0) (by kernel_rfl) rfl rfl ((World.rangeAt_drew wA g1 0 L).2 hR0) (fun hHeld=>?_);refine with_tabW refIsExtR.tab refIsExtR.bits (fun HT_ HW_=>?_);replace hR0 : wA.drew.rangeAt g1 0 L:=hHeld;replace hT0 : Below w.heap.size w wA.drew:=below_drew hT0;replace hZ0 : g1 < wA.drew.heap.size:=hZ0;generalize wA.drew = wq at hR0 hT0 hZ0 hHeld ⊢;refine p_ HT_ 0 (some 62) refIsExtR.l0 ?_;refine p_ HT_ 2 (some 64) refIsExtR.l1 ?_;refine p_ HT_ 3 (some 65) refIsExtR.l2 ?_;refine tk HT_ HW_ hHeld 4 (some 66) refIsExtR.l3 (hr:=by intro w' hs_;obtain ⟨c0,c1,c2,c3,c4,c5⟩:=HCV.out w' hs_;go_simp;with_reducible rfl) (h:=?_);refine p_ HT_ 5 (some 67) refIsExtR.l4 ?_;refine o_ HT_ 1 (some 63) refIsExtR.l5 fun K hK=>?_;refine gs Try.func30 #[.int .i64 x.kind,.int .u8 86] ?_;refine (althingref7_names.calls 40 _ _ _ _ EV.out).mono ?_;rintro e w5 ⟨rfl,hB5⟩;refine ⟨_,rfl,?_⟩;refine rr hR0 hT0 hZ0 hB5 ?_;clear hR0 hT0 hZ0 hB5;intro hR0 hT0 hZ0;refine hK.out _ _ hR0 (fun hHeld=>?_);clear hK K;refine nm (some 63) ?_;refine p_ HT_ 6 (some 68) refIsExtR.l6 ?_;refine p_ HT_ 7 (some 69) refIsExtR.l7 ?_;refine p_ HT_ 8 (some 70) refIsExtR.l8 ?_;refine o_ HT_ 9 (some 71) refIsExtR.l9 fun K hK=>?_;refine gs Try.func30 #[.int .i64 x.kind,.int .u8 86] ?_;refine (althingref7_names.calls 40 _ _ _ _ EV.out).mono ?_;rintro e w5 ⟨rfl,hB5⟩;refine ⟨_,rfl,?_⟩;refine rr hR0 hT0 hZ0 hB5 ?_;clear hR0 hT0 hZ0 hB5;intro hR0 hT0 hZ0;refine hK.out _ _ hR0 (fun hHeld=>?_);clear hK K;refine nm (some 71) ?_;refine p_ HT_ 10 (some 72) refIsExtR.l10 ?_;refine p_ HT_ 11 (some 73) refIsExtR.l11 ?_;refine tk HT_ HW_ hHeld 12 (some 74) refIsExtR.l12 (hr:=by intro w' hs_;obtain ⟨c0,c1,c2,c3,c4,c5⟩:=HCV.out w' hs_;go_simp;with_reducible rfl) (h:=?_);refine o_ HT_ 13 (some 75) refIsExtR.l13 fun K hK=>?_;refine gs Try.func31 #[.agg #[.int .i64 x.vkind,.bool x.vaye,.int .i64 x.vlevel,.int .i64 x.va,.int .i64 x.vn,.int .i64 x.vs]] ?_;refine (althingref5_Is.calls 40 _ _ _ _ _ _ _ _ E5v.out).mono ?_;rintro e w5 ⟨rfl,hB5⟩;refine ⟨_,rfl,?_⟩;refine rr hR0 hT0 hZ0 hB5 ?_;clear hR0 hT0 hZ0 hB5;intro hR0 hT0 hZ0;refine hK.out _ _ hR0 (fun hHeld=>?_);clear hK K;refine nm (some 75) ?_;refine p_ HT_ 14 (some 76) refIsExtR.l14 ?_;refine p_ HT_ 15 (some 77) refIsExtR.l15 ?_;refine p_ HT_ 16 (some 78) refIsExtR.l16 ?_;refine p_ HT_ 17 (some 79) refIsExtR.l17 ?_;refine p_ HT_ 18 (some 80) refIsExtR.l18 ?_;refine o_ HT_ 19 (some 81) refIsExtR.l19 fun K hK=>?_;refine gs Try.func30 #[.int .i64 x.kind,.int .u8 86] ?_;refine (althingref7_names.calls 40 _ _ _ _ EV.out).mono ?_;rintro e w5 ⟨rfl,hB5⟩;refine ⟨_,rfl,?_⟩;refine rr hR0 hT0 hZ0 hB5 ?_;clear hR0 hT0 hZ0 hB5;intro hR0 hT0 hZ0;refine hK.out _ _ hR0 (fun hHeld=>?_);clear hK K;refine nm (some 81) ?_;refine p_ HT_ 20 (some 82) refIsExtR.l20 ?_;refine p_ HT_ 21 (some 83) refIsExtR.l21 ?_;refine f_ HT_ 22 (some 84) refIsExtR.l22 ?_;refine f_ HT_ 23 (some 85) refIsExtR.l23 ?_;refine f_ HT_ 24 (some 86) refIsExtR.l24 ?_;refine f_ HT_ 25 (some 87) refIsExtR.l25 ?_;refine p_ HT_ 26 (some 88) refIsExtR.l26 ?_;refine p_ HT_ 27 (some 89) refIsExtR.l27 ?_;refine done_ (done_of HT_.out (by kernel_rfl)) ?_;clear HT_ HW_ hHeld;obtain ⟨p0,p1,p2,p3⟩:=HCC.out _ hR0
                     cases nC with
                     | true=>
                       go_wp2_with (first
                        | (go_at_call 30;with_reducible refine (althingref7_names.calls 40 _ _ _ _ EC.out).mono ?_;rintro e u9 ⟨rfl,hB5⟩;refine rr hR0 hT0 hZ0 hB5 ?_;clear hR0 hT0 hZ0 hB5;intro hR0 hT0 hZ0;obtain ⟨q0,q1,q2,q3⟩:=HCC.out _ hR0)
                        | (go_at_call 17;with_reducible refine (althingref7_IsCall.calls 40 _ _ _ A c x.call.f3 cr _ (Kd.C_below HC.out hT0) Hc.out ECR.out).mono ?_;rintro e u10 ⟨rfl,hB5⟩;replace hT0:=below_step hT0 hB5;clear hB5))
                       all_goals go_ret
                       all_goals exact ⟨by first | (simp;done) | (simp [vkd];done),hT0⟩
                     | false=>
                       by_cases k0 : x.call.f0 = 0
                       rotate_left
                       ·have k0a : decide (x.call.f0 = 0) = false:=decide_eq_false k0;have k0b : (x.call.f0 == 0) = false:=beq_eq_false_iff_ne.2 k0
                        go_wp2_with (go_at_call 30;with_reducible refine (althingref7_names.calls 40 _ _ _ _ EC.out).mono ?_;rintro e u9 ⟨rfl,hB5⟩;refine rr hR0 hT0 hZ0 hB5 ?_;clear hR0 hT0 hZ0 hB5;intro hR0 hT0 hZ0;obtain ⟨q0,q1,q2,q3⟩:=HCC.out _ hR0)
                        all_goals go_ret
                        all_goals exact ⟨by first | (simp [k0];done) | (simp [k0,vkd];done),hT0⟩
                       have k0a : decide (x.call.f0 = 0) = true:=decide_eq_true k0;have k0b : (x.call.f0 == 0) = true:=beq_iff_eq.2 k0
                       by_cases k1 : x.call.f1 = 0
                       rotate_left
                       ·have k1a : decide (x.call.f1 = 0) = false:=decide_eq_false k1;have k1b : (x.call.f1 == 0) = false:=beq_eq_false_iff_ne.2 k1
                        go_wp2_with (go_at_call 30;with_reducible refine (althingref7_names.calls 40 _ _ _ _ EC.out).mono ?_;rintro e u9 ⟨rfl,hB5⟩;refine rr hR0 hT0 hZ0 hB5 ?_;clear hR0 hT0 hZ0 hB5;intro hR0 hT0 hZ0;obtain ⟨q0,q1,q2,q3⟩:=HCC.out _ hR0)
                        all_goals go_ret
                        all_goals exact ⟨by first | (simp [k1];done) | (simp [k1,vkd];done),hT0⟩
                       have k1a : decide (x.call.f1 = 0) = true:=decide_eq_true k1;have k1b : (x.call.f1 == 0) = true:=beq_iff_eq.2 k1
                       by_cases k2 : x.call.f2 = 0
                       rotate_left
                       ·have k2a : decide (x.call.f2 = 0) = false:=decide_eq_false k2;have k2b : (x.call.f2 == 0) = false:=beq_eq_false_iff_ne.2 k2
                        go_wp2_with (go_at_call 30;with_reducible refine (althingref7_names.calls 40 _ _ _ _ EC.out).mono ?_;rintro e u9 ⟨rfl,hB5⟩;refine rr hR0 hT0 hZ0 hB5 ?_;clear hR0 hT0 hZ0 hB5;intro hR0 hT0 hZ0;obtain ⟨q0,q1,q2,q3⟩:=HCC.out _ hR0)
                        all_goals go_ret
                        all_goals exact ⟨by first | (simp [k2];done) | (simp [k2,vkd];done),hT0⟩
                       have k2a : decide (x.call.f2 = 0) = true:=decide_eq_true k2;have k2b : (x.call.f2 == 0) = true:=beq_iff_eq.2 k2
                       by_cases k3 : (x.call.f3.length : Int) = 0
                       ·have k3a : decide ((x.call.f3.length : Int) = 0) = true:=decide_eq_true k3;have k3b : ((x.call.f3.length : Int) == 0) = true:=beq_iff_eq.2 k3
                        have k3c : x.call.f3.length = 0:=by omega
                        go_wp2_with (go_at_call 30;with_reducible refine (althingref7_names.calls 40 _ _ _ _ EC.out).mono ?_;rintro e u9 ⟨rfl,hB5⟩;refine rr hR0 hT0 hZ0 hB5 ?_;clear hR0 hT0 hZ0 hB5;intro hR0 hT0 hZ0;obtain ⟨q0,q1,q2,q3⟩:=HCC.out _ hR0)
                        all_goals go_ret
                        all_goals exact ⟨by first | (simp [k0,k1,k2,k3c];done) | (simp [k0,k1,k2,k3c,vkd];done),hT0⟩
                       ·have k3a : decide ((x.call.f3.length : Int) = 0) = false:=decide_eq_false k3;have k3b : ((x.call.f3.length : Int) == 0) = false:=beq_eq_false_iff_ne.2 k3
                        have k3c : ¬ x.call.f3.length = 0:=by omega
                        go_wp2_with (go_at_call 30;with_reducible refine (althingref7_names.calls 40 _ _ _ _ EC.out).mono ?_;rintro e u9 ⟨rfl,hB5⟩;refine rr hR0 hT0 hZ0 hB5 ?_;clear hR0 hT0 hZ0 hB5;intro hR0 hT0 hZ0;obtain ⟨q0,q1,q2,q3⟩:=HCC.out _ hR0)
                        all_goals go_ret
                        all_goals exact ⟨by first | (simp [k3c];done) | (simp [k3c,vkd];done),hT0⟩
                | false=>
                  by_cases vk : x.vkind = 0
                  rotate_left
                  ·have vka : decide (x.vkind = 0) = false:=decide_eq_false vk;have vkb : (x.vkind == 0) = false:=beq_eq_false_iff_ne.2 vk;have vkc : (x.vkind != 0) = true:=bne_iff_ne.2 vk;have vkd : decide (x.vkind ≠ 0) = true:=decide_eq_true vk;have VK:=am vk;clear vk;refine start_ (n:=28) (S:=fun w'=>w'.rangeAt g1 0 L) (ds:=[]) (bl 28 0) (by kernel_rfl) rfl rfl ((World.rangeAt_drew wA g1 0 L).2 hR0) (fun hHeld=>?_);refine with_tabW refIsExtR.tab refIsExtR.bits (fun HT_ HW_=>?_);replace hR0 : wA.drew.rangeAt g1 0 L:=hHeld;replace hT0 : Below w.heap.size w wA.drew:=below_drew hT0;replace hZ0 : g1 < wA.drew.heap.size:=hZ0;generalize wA.drew = wq at hR0 hT0 hZ0 hHeld ⊢;refine p_ HT_ 0 (some 62) refIsExtR.l0 ?_;refine p_ HT_ 2 (some 64) refIsExtR.l1 ?_;refine p_ HT_ 3 (some 65) refIsExtR.l2 ?_;refine tk HT_ HW_ hHeld 4 (some 66) refIsExtR.l3 (hr:=by intro w' hs_;obtain ⟨c0,c1,c2,c3,c4,c5⟩:=HCV.out w' hs_;go_simp;with_reducible rfl) (h:=?_);refine p_ HT_ 5 (some 67) refIsExtR.l4 ?_;refine o_ HT_ 1 (some 63) refIsExtR.l5 fun K hK=>?_;refine gs Try.func30 #[.int .i64 x.kind,.int .u8 86] ?_;refine (althingref7_names.calls 40 _ _ _ _ EV.out).mono ?_;rintro e w5 ⟨rfl,hB5⟩;refine ⟨_,rfl,?_⟩;refine rr hR0 hT0 hZ0 hB5 ?_;clear hR0 hT0 hZ0 hB5;intro hR0 hT0 hZ0;refine hK.out _ _ hR0 (fun hHeld=>?_);clear hK K;refine nm (some 63) ?_;refine p_ HT_ 6 (some 68) refIsExtR.l6 ?_;refine p_ HT_ 7 (some 69) refIsExtR.l7 ?_;refine f_ HT_ 8 (some 70) refIsExtR.l8 ?_;refine f_ HT_ 9 (some 71) refIsExtR.l9 ?_;refine f_ HT_ 10 (some 72) refIsExtR.l10 ?_;refine f_ HT_ 11 (some 73) refIsExtR.l11 ?_;refine f_ HT_ 12 (some 74) refIsExtR.l12 ?_;refine f_ HT_ 13 (some 75) refIsExtR.l13 ?_;refine f_ HT_ 14 (some 76) refIsExtR.l14 ?_;refine f_ HT_ 15 (some 77) refIsExtR.l15 ?_;refine p_ HT_ 16 (some 78) refIsExtR.l16 ?_;refine p_ HT_ 17 (some 79) refIsExtR.l17 ?_;refine f_ HT_ 18 (some 80) refIsExtR.l18 ?_;refine f_ HT_ 19 (some 81) refIsExtR.l19 ?_;refine f_ HT_ 20 (some 82) refIsExtR.l20 ?_;refine f_ HT_ 21 (some 83) refIsExtR.l21 ?_;refine f_ HT_ 22 (some 84) refIsExtR.l22 ?_;refine f_ HT_ 23 (some 85) refIsExtR.l23 ?_;refine f_ HT_ 24 (some 86) refIsExtR.l24 ?_;refine f_ HT_ 25 (some 87) refIsExtR.l25 ?_;refine f_ HT_ 26 (some 88) refIsExtR.l26 ?_;refine p_ HT_ 27 (some 89) refIsExtR.l27 ?_;refine done_ (done_of HT_.out (by kernel_rfl)) ?_;clear HT_ HW_ hHeld
                   go_wp2
                   all_goals go_ret
                   all_goals exact ⟨by first | (simp;done) | (simp [vkd];done),hT0⟩
                  have vka : decide (x.vkind = 0) = true:=decide_eq_true vk;have vkb : (x.vkind == 0) = true:=beq_iff_eq.2 vk
                  have vkc : (x.vkind != 0) = false:=by simp [vk]
                  have vkd : decide (x.vkind ≠ 0) = false:=decide_eq_false (fun h=>h vk)
                  cases zV with
                  | true=>
                    have VK:=am vk;clear vk;refine start_ (n:=28) (S:=fun w'=>w'.rangeAt g1 0 L) (ds:=[]) (bl 28 0) (by kernel_rfl) rfl rfl ((World.rangeAt_drew wA g1 0 L).2 hR0) (fun hHeld=>?_);refine with_tabW refIsExtR.tab refIsExtR.bits (fun HT_ HW_=>?_);replace hR0 : wA.drew.rangeAt g1 0 L:=hHeld;replace hT0 : Below w.heap.size w wA.drew:=below_drew hT0;replace hZ0 : g1 < wA.drew.heap.size:=hZ0;generalize wA.drew = wq at hR0 hT0 hZ0 hHeld ⊢;refine p_ HT_ 0 (some 62) refIsExtR.l0 ?_;refine p_ HT_ 2 (some 64) refIsExtR.l1 ?_;refine p_ HT_ 3 (some 65) refIsExtR.l2 ?_;refine tk HT_ HW_ hHeld 4 (some 66) refIsExtR.l3 (hr:=by intro w' hs_;obtain ⟨c0,c1,c2,c3,c4,c5⟩:=HCV.out w' hs_;go_simp;with_reducible rfl) (h:=?_);refine p_ HT_ 5 (some 67) refIsExtR.l4 ?_;refine o_ HT_ 1 (some 63) refIsExtR.l5 fun K hK=>?_;refine gs Try.func30 #[.int .i64 x.kind,.int .u8 86] ?_;refine (althingref7_names.calls 40 _ _ _ _ EV.out).mono ?_;rintro e w5 ⟨rfl,hB5⟩;refine ⟨_,rfl,?_⟩;refine rr hR0 hT0 hZ0 hB5 ?_;clear hR0 hT0 hZ0 hB5;intro hR0 hT0 hZ0;refine hK.out _ _ hR0 (fun hHeld=>?_);clear hK K;refine nm (some 63) ?_;refine p_ HT_ 6 (some 68) refIsExtR.l6 ?_;refine p_ HT_ 7 (some 69) refIsExtR.l7 ?_;refine p_ HT_ 8 (some 70) refIsExtR.l8 ?_;refine o_ HT_ 9 (some 71) refIsExtR.l9 fun K hK=>?_;refine gs Try.func30 #[.int .i64 x.kind,.int .u8 86] ?_;refine (althingref7_names.calls 40 _ _ _ _ EV.out).mono ?_;rintro e w5 ⟨rfl,hB5⟩;refine ⟨_,rfl,?_⟩;refine rr hR0 hT0 hZ0 hB5 ?_;clear hR0 hT0 hZ0 hB5;intro hR0 hT0 hZ0;refine hK.out _ _ hR0 (fun hHeld=>?_);clear hK K;refine nm (some 71) ?_;refine p_ HT_ 10 (some 72) refIsExtR.l10 ?_;refine f_ HT_ 11 (some 73) refIsExtR.l11 ?_;refine f_ HT_ 12 (some 74) refIsExtR.l12 ?_;refine f_ HT_ 13 (some 75) refIsExtR.l13 ?_;refine f_ HT_ 14 (some 76) refIsExtR.l14 ?_;refine p_ HT_ 15 (some 77) refIsExtR.l15 ?_;refine p_ HT_ 16 (some 78) refIsExtR.l16 ?_;refine p_ HT_ 17 (some 79) refIsExtR.l17 ?_;refine p_ HT_ 18 (some 80) refIsExtR.l18 ?_;refine o_ HT_ 19 (some 81) refIsExtR.l19 fun K hK=>?_;refine gs Try.func30 #[.int .i64 x.kind,.int .u8 86] ?_;refine (althingref7_names.calls 40 _ _ _ _ EV.out).mono ?_;rintro e w5 ⟨rfl,hB5⟩;refine ⟨_,rfl,?_⟩;refine rr hR0 hT0 hZ0 hB5 ?_;clear hR0 hT0 hZ0 hB5;intro hR0 hT0 hZ0;refine hK.out _ _ hR0 (fun hHeld=>?_);clear hK K;refine nm (some 81) ?_;refine p_ HT_ 20 (some 82) refIsExtR.l20 ?_;refine p_ HT_ 21 (some 83) refIsExtR.l21 ?_;refine p_ HT_ 22 (some 84) refIsExtR.l22 ?_;refine tk HT_ HW_ hHeld 23 (some 85) refIsExtR.l23 (hr:=by intro w' hs_;obtain ⟨c0,c1,c2,c3,c4,c5⟩:=HCV.out w' hs_;go_simp;with_reducible rfl) (h:=?_);refine pure_ (i:=24) (N:=some 86) (v:= .agg VZ) (a':=?_) refIsExtR.l24 rfl rfl (any_of HT_.out (by kernel_rfl)) (fun _ _ _ h=>h) (Or.inl ⟨by rfl,?_⟩) ?_ ?_
                    ·intro w';exact build_run0 rfl (HBV.out w')
                    rotate_left
                    ·simp only [Act.put,List.setIfInBounds_toArray,List.set_cons_zero,List.set_cons_succ,i64_w,i32_w]
                     rfl
                    refine pure_ (i:=25) (N:=some 87) (v:= .bool true) (a':=?_) refIsExtR.l25 rfl rfl (any_of HT_.out (by kernel_rfl)) (fun _ _ _ h=>h) (Or.inl ⟨by rfl,?_⟩) ?_ ?_
                    ·intro w';exact neq_run (x:= .tmp 85) (y:= .tmp 86) rfl rfl rfl guard_vote (HZV.out w')
                    rotate_left
                    ·simp only [Act.put,List.setIfInBounds_toArray,List.set_cons_zero,List.set_cons_succ,i64_w,i32_w]
                     rfl
                    refine p_ HT_ 26 (some 88) refIsExtR.l26 ?_;refine p_ HT_ 27 (some 89) refIsExtR.l27 ?_;refine done_ (done_of HT_.out (by kernel_rfl)) ?_;clear HT_ HW_ hHeld
                    go_wp2
                    all_goals go_ret
                    all_goals exact ⟨by first | (simp;done) | (simp [vkd];done),hT0⟩
                  | false=>
                    have VK:=am vk;clear vk;refine start_ (n:=28) (S:=fun w'=>w'.rangeAt g1 0 L) (ds:=[]) (bl 28 0) (by kernel_rfl) rfl rfl ((World.rangeAt_drew wA g1 0 L).2 hR0) (fun hHeld=>?_);refine with_tabW refIsExtR.tab refIsExtR.bits (fun HT_ HW_=>?_);replace hR0 : wA.drew.rangeAt g1 0 L:=hHeld;replace hT0 : Below w.heap.size w wA.drew:=below_drew hT0;replace hZ0 : g1 < wA.drew.heap.size:=hZ0;generalize wA.drew = wq at hR0 hT0 hZ0 hHeld ⊢;refine p_ HT_ 0 (some 62) refIsExtR.l0 ?_;refine p_ HT_ 2 (some 64) refIsExtR.l1 ?_;refine p_ HT_ 3 (some 65) refIsExtR.l2 ?_;refine tk HT_ HW_ hHeld 4 (some 66) refIsExtR.l3 (hr:=by intro w' hs_;obtain ⟨c0,c1,c2,c3,c4,c5⟩:=HCV.out w' hs_;go_simp;with_reducible rfl) (h:=?_);refine p_ HT_ 5 (some 67) refIsExtR.l4 ?_;refine o_ HT_ 1 (some 63) refIsExtR.l5 fun K hK=>?_;refine gs Try.func30 #[.int .i64 x.kind,.int .u8 86] ?_;refine (althingref7_names.calls 40 _ _ _ _ EV.out).mono ?_;rintro e w5 ⟨rfl,hB5⟩;refine ⟨_,rfl,?_⟩;refine rr hR0 hT0 hZ0 hB5 ?_;clear hR0 hT0 hZ0 hB5;intro hR0 hT0 hZ0;refine hK.out _ _ hR0 (fun hHeld=>?_);clear hK K;refine nm (some 63) ?_;refine p_ HT_ 6 (some 68) refIsExtR.l6 ?_;refine p_ HT_ 7 (some 69) refIsExtR.l7 ?_;refine p_ HT_ 8 (some 70) refIsExtR.l8 ?_;refine o_ HT_ 9 (some 71) refIsExtR.l9 fun K hK=>?_;refine gs Try.func30 #[.int .i64 x.kind,.int .u8 86] ?_;refine (althingref7_names.calls 40 _ _ _ _ EV.out).mono ?_;rintro e w5 ⟨rfl,hB5⟩;refine ⟨_,rfl,?_⟩;refine rr hR0 hT0 hZ0 hB5 ?_;clear hR0 hT0 hZ0 hB5;intro hR0 hT0 hZ0;refine hK.out _ _ hR0 (fun hHeld=>?_);clear hK K;refine nm (some 71) ?_;refine p_ HT_ 10 (some 72) refIsExtR.l10 ?_;refine f_ HT_ 11 (some 73) refIsExtR.l11 ?_;refine f_ HT_ 12 (some 74) refIsExtR.l12 ?_;refine f_ HT_ 13 (some 75) refIsExtR.l13 ?_;refine f_ HT_ 14 (some 76) refIsExtR.l14 ?_;refine p_ HT_ 15 (some 77) refIsExtR.l15 ?_;refine p_ HT_ 16 (some 78) refIsExtR.l16 ?_;refine p_ HT_ 17 (some 79) refIsExtR.l17 ?_;refine p_ HT_ 18 (some 80) refIsExtR.l18 ?_;refine o_ HT_ 19 (some 81) refIsExtR.l19 fun K hK=>?_;refine gs Try.func30 #[.int .i64 x.kind,.int .u8 86] ?_;refine (althingref7_names.calls 40 _ _ _ _ EV.out).mono ?_;rintro e w5 ⟨rfl,hB5⟩;refine ⟨_,rfl,?_⟩;refine rr hR0 hT0 hZ0 hB5 ?_;clear hR0 hT0 hZ0 hB5;intro hR0 hT0 hZ0;refine hK.out _ _ hR0 (fun hHeld=>?_);clear hK K;refine nm (some 81) ?_;refine p_ HT_ 20 (some 82) refIsExtR.l20 ?_;refine p_ HT_ 21 (some 83) refIsExtR.l21 ?_;refine p_ HT_ 22 (some 84) refIsExtR.l22 ?_;refine tk HT_ HW_ hHeld 23 (some 85) refIsExtR.l23 (hr:=by intro w' hs_;obtain ⟨c0,c1,c2,c3,c4,c5⟩:=HCV.out w' hs_;go_simp;with_reducible rfl) (h:=?_);refine pure_ (i:=24) (N:=some 86) (v:= .agg VZ) (a':=?_) refIsExtR.l24 rfl rfl (any_of HT_.out (by kernel_rfl)) (fun _ _ _ h=>h) (Or.inl ⟨by rfl,?_⟩) ?_ ?_
                    ·intro w';exact build_run0 rfl (HBV.out w')
                    rotate_left
                    ·simp only [Act.put,List.setIfInBounds_toArray,List.set_cons_zero,List.set_cons_succ,i64_w,i32_w]
                     rfl
                    refine pure_ (i:=25) (N:=some 87) (v:= .bool false) (a':=?_) refIsExtR.l25 rfl rfl (any_of HT_.out (by kernel_rfl)) (fun _ _ _ h=>h) (Or.inl ⟨by rfl,?_⟩) ?_ ?_
                    ·intro w';exact neq_run (x:= .tmp 85) (y:= .tmp 86) rfl rfl rfl guard_vote (HZV.out w')
                    rotate_left
                    ·simp only [Act.put,List.setIfInBounds_toArray,List.set_cons_zero,List.set_cons_succ,i64_w,i32_w]
                     rfl
                    refine p_ HT_ 26 (some 88) refIsExtR.l26 ?_;refine p_ HT_ 27 (some 89) refIsExtR.l27 ?_;refine done_ (done_of HT_.out (by kernel_rfl)) ?_;clear HT_ HW_ hHeld;obtain ⟨p0,p1,p2,p3⟩:=HCC.out _ hR0
                    cases nC with
                    | true=>
                      go_wp2_with (first
                       | (go_at_call 30;with_reducible refine (althingref7_names.calls 40 _ _ _ _ EC.out).mono ?_;rintro e u9 ⟨rfl,hB5⟩;refine rr hR0 hT0 hZ0 hB5 ?_;clear hR0 hT0 hZ0 hB5;intro hR0 hT0 hZ0;obtain ⟨q0,q1,q2,q3⟩:=HCC.out _ hR0)
                       | (go_at_call 17;with_reducible refine (althingref7_IsCall.calls 40 _ _ _ A c x.call.f3 cr _ (Kd.C_below HC.out hT0) Hc.out ECR.out).mono ?_;rintro e u10 ⟨rfl,hB5⟩;replace hT0:=below_step hT0 hB5;clear hB5))
                      all_goals go_ret
                      all_goals exact ⟨by first | (simp;done) | (simp [vkd];done),hT0⟩
                    | false=>
                      by_cases k0 : x.call.f0 = 0
                      rotate_left
                      ·have k0a : decide (x.call.f0 = 0) = false:=decide_eq_false k0;have k0b : (x.call.f0 == 0) = false:=beq_eq_false_iff_ne.2 k0
                       go_wp2_with (go_at_call 30;with_reducible refine (althingref7_names.calls 40 _ _ _ _ EC.out).mono ?_;rintro e u9 ⟨rfl,hB5⟩;refine rr hR0 hT0 hZ0 hB5 ?_;clear hR0 hT0 hZ0 hB5;intro hR0 hT0 hZ0;obtain ⟨q0,q1,q2,q3⟩:=HCC.out _ hR0)
                       all_goals go_ret
                       all_goals exact ⟨by first | (simp [k0];done) | (simp [k0,vkd];done),hT0⟩
                      have k0a : decide (x.call.f0 = 0) = true:=decide_eq_true k0;have k0b : (x.call.f0 == 0) = true:=beq_iff_eq.2 k0
                      by_cases k1 : x.call.f1 = 0
                      rotate_left
                      ·have k1a : decide (x.call.f1 = 0) = false:=decide_eq_false k1;have k1b : (x.call.f1 == 0) = false:=beq_eq_false_iff_ne.2 k1
                       go_wp2_with (go_at_call 30;with_reducible refine (althingref7_names.calls 40 _ _ _ _ EC.out).mono ?_;rintro e u9 ⟨rfl,hB5⟩;refine rr hR0 hT0 hZ0 hB5 ?_;clear hR0 hT0 hZ0 hB5;intro hR0 hT0 hZ0;obtain ⟨q0,q1,q2,q3⟩:=HCC.out _ hR0)
                       all_goals go_ret
                       all_goals exact ⟨by first | (simp [k1];done) | (simp [k1,vkd];done),hT0⟩
                      have k1a : decide (x.call.f1 = 0) = true:=decide_eq_true k1;have k1b : (x.call.f1 == 0) = true:=beq_iff_eq.2 k1
                      by_cases k2 : x.call.f2 = 0
                      rotate_left
                      ·have k2a : decide (x.call.f2 = 0) = false:=decide_eq_false k2;have k2b : (x.call.f2 == 0) = false:=beq_eq_false_iff_ne.2 k2
                       go_wp2_with (go_at_call 30;with_reducible refine (althingref7_names.calls 40 _ _ _ _ EC.out).mono ?_;rintro e u9 ⟨rfl,hB5⟩;refine rr hR0 hT0 hZ0 hB5 ?_;clear hR0 hT0 hZ0 hB5;intro hR0 hT0 hZ0;obtain ⟨q0,q1,q2,q3⟩:=HCC.out _ hR0)
                       all_goals go_ret
                       all_goals exact ⟨by first | (simp [k2];done) | (simp [k2,vkd];done),hT0⟩
                      have k2a : decide (x.call.f2 = 0) = true:=decide_eq_true k2;have k2b : (x.call.f2 == 0) = true:=beq_iff_eq.2 k2
                      by_cases k3 : (x.call.f3.length : Int) = 0
                      ·have k3a : decide ((x.call.f3.length : Int) = 0) = true:=decide_eq_true k3;have k3b : ((x.call.f3.length : Int) == 0) = true:=beq_iff_eq.2 k3
                       have k3c : x.call.f3.length = 0:=by omega
                       go_wp2_with (go_at_call 30;with_reducible refine (althingref7_names.calls 40 _ _ _ _ EC.out).mono ?_;rintro e u9 ⟨rfl,hB5⟩;refine rr hR0 hT0 hZ0 hB5 ?_;clear hR0 hT0 hZ0 hB5;intro hR0 hT0 hZ0;obtain ⟨q0,q1,q2,q3⟩:=HCC.out _ hR0)
                       all_goals go_ret
                       all_goals exact ⟨by first | (simp [k0,k1,k2,k3c];done) | (simp [k0,k1,k2,k3c,vkd];done),hT0⟩
                      ·have k3a : decide ((x.call.f3.length : Int) = 0) = false:=decide_eq_false k3;have k3b : ((x.call.f3.length : Int) == 0) = false:=beq_eq_false_iff_ne.2 k3
                       have k3c : ¬ x.call.f3.length = 0:=by omega
                       go_wp2_with (go_at_call 30;with_reducible refine (althingref7_names.calls 40 _ _ _ _ EC.out).mono ?_;rintro e u9 ⟨rfl,hB5⟩;refine rr hR0 hT0 hZ0 hB5 ?_;clear hR0 hT0 hZ0 hB5;intro hR0 hT0 hZ0;obtain ⟨q0,q1,q2,q3⟩:=HCC.out _ hR0)
                       all_goals go_ret
                       all_goals exact ⟨by first | (simp [k3c];done) | (simp [k3c,vkd];done),hT0⟩)
end Go.Proofs.Ytilckocpgififaa.G
