/- althinglaw7.known: a remark's bytes, and an unlocking that may be. -/
import Derived.Test.YtilckocpgififaaDoorScHStep
import Derived.Test.YtilckocpgififaaDoorScHIsExtC
import Derived.Test.YtilckocpgififaaDoorScGx3
namespace Go.Proofs.YtilckocpgififaaDoor.G
open Go.RowKit Go.Proofs.YtilckocpgififaaDoorW.PrintWords Go.Proofs.YtilckocpgififaaDoorW.PrintLast Go.Proofs.YtilckocpgififaaDoorW.PrintMore
set_option linter.unusedVariables false
set_option linter.unusedSimpArgs false
theorem remark_bytes : code_EncodeCall.f 40 1 0 3 [] = some ([4,0,12,0],0):=by decide +kernel
theorem remark_text : strOfNums [4,0,12,0] = ({ data:=#[4,0,12,0] } : ByteArray):=by decide +kernel
set_option maxRecDepth 100000 in
set_option maxHeartbeats 8000000 in
theorem known_calls (w : World) : Calls Tryd.prog 9 #[] w fun e w'=>e = .returned (.bool true) ∧ Below w.heap.size w w':=by
 obtain ⟨X,hX⟩ : ∃ X,X = (x0.cells none 0).toArray:=⟨_,rfl⟩;have hbr : ∀ w,(Instr.build 51 #[(0,.int .i64 11),(1,.int .i64 2)]).run Tryd.prog w = .ok (.agg X) w:=fun w=>run_build w _ _ _ (by rw [hX];exact built_ext 11 2);have hU:=isExt_unlock;rw [← hX] at hU;have HX:=am hX;have HU:=am hU;clear hX hU;have htx:=remark_text;go_enter Tryd.func9,Tryd.ntmps9
 go_upto_region 2 with (go_at_call 6;refine (code_EncodeCall.calls 40 1 0 3 none 0 [] [4,0,12,0] 0 _ (Kd.C_nil _ _) (Nat.le_refl _) remark_bytes).mono ?_;rintro e w1 ⟨v,rfl,hv,hb1⟩;have HV:=am hv;have HB1:=am hb1;clear hv hb1)
 have hst:=own_string (P:=Tryd.prog) Tryd.underlying26 Tryd.underlying5 Tryd.underlying9 (Kd.own_of_R HV.out);rw [htx] at hst
 go_wp2_with (first
  | ((with_reducible refine gate_dst (N:=16) rfl ?_);(try (refine gate_guard (by rfl) ?_;dsimp only));refine Kd.event_run (v:= .agg X) (w1:=w1) rfl (by first | (simp [execOp,hbr,go_sem];done) | (simp [execOp,hbr,go_sem];rw [HX.out];rfl)) ?_)
  | (go_at_call 21;with_reducible refine (HU.out _).mono ?_;rintro e w2 ⟨rfl,hb2⟩;have HB2:=am (below_step HB1.out hb2);clear hb2))
 all_goals go_ret
 all_goals exact ⟨rfl,HB2.out⟩
end Go.Proofs.YtilckocpgififaaDoor.G
