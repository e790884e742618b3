import Derived.Test.YtilckocpgififaaExHStep
import Derived.Test.YtilckocpgififaaExGx3
import Derived.Test.YtilckocpgififaaExGx6
import Derived.Test.YtilckocpgififaaExHKnown
-- Laid by this session's own program gprint.py over the kit's print (given functions are proved by hand).
namespace Go.Proofs.Ytilckocpgififaa.G
open Go.RowKit Go.Proofs.YtilckocpgififaaW.PrintWords Go.Proofs.YtilckocpgififaaW.PrintLast Go.Proofs.YtilckocpgififaaW.PrintMore
attribute [local go_sem] max2_int min2_int max_two min_two max_three min_three max_four min_four   -- for this text's walks alone
set_option linter.unusedVariables false
set_option linter.unusedSimpArgs false
/-! ### althingref1_Num: function 36 -/
def althingref1_Num.l0 : Nat → Int → Int → Option (List Int)
 | 0,_,_=>none
 | k + 1,x0,x3=>if x3 < 8 then (if 0 ≤ (IntKind.u64.wrap (wrap64 (8 * x3))) then (if (shr .i64 x0 (IntKind.u64.wrap (wrap64 (8 * x3)))) > 0 then (althingref1_Num.l0 k x0 (wrap64 (x3 + 1))) else ((some (([(Go.bits .or .i64 (wrap64 ((wrap64 (x3 - 4)) * 4)) 3) % 256] : List Int) : List Int)).bind fun y225=>((althingref1_low.f k x0 x3).bind fun t228=>(if y225.length + t228.length < 140737488355328 then (some (y225 ++ t228)) else (none))))) else (none)) else ((some (([(Go.bits .or .i64 (wrap64 ((wrap64 (x3 - 4)) * 4)) 3) % 256] : List Int) : List Int)).bind fun y234=>((althingref1_low.f k x0 x3).bind fun t237=>(if y234.length + t237.length < 140737488355328 then (some (y234 ++ t237)) else (none))))
def althingref1_Num.f (k : Nat) (a0 : Int) : Option (List Int):=if (mn (mx a0 0) 4611686018427387904) < 64 then ((althingref1_low.f k (wrap64 ((mn (mx a0 0) 4611686018427387904) * 4)) 1).bind fun t216=>(some t216)) else (if (mn (mx a0 0) 4611686018427387904) < 16384 then ((althingref1_low.f k (Go.bits .or .i64 (wrap64 ((mn (mx a0 0) 4611686018427387904) * 4)) 1) 2).bind fun t219=>(some t219)) else (if (mn (mx a0 0) 4611686018427387904) < 1073741824 then ((althingref1_low.f k (Go.bits .or .i64 (wrap64 ((mn (mx a0 0) 4611686018427387904) * 4)) 2) 4).bind fun t222=>(some t222)) else (althingref1_Num.l0 k (mn (mx a0 0) 4611686018427387904) 4)))
set_option maxHeartbeats 8000000 in
set_option maxRecDepth 100000 in
theorem althingref1_Num.calls (k : Nat) (a0 : Int) (r : List Int) (w : World) (h : althingref1_Num.f k a0 = some r) :
 Calls Try.prog 36 #[.int .i64 a0] w fun e w'=>∃ v0_ : Value,e = .returned (v0_) ∧ Kd.R (Kd.int .u8) 5 w' w.heap.size (fun _=>True) v0_ r ∧ Below w.heap.size w w':=by
 have HB:=am (Below.refl w.heap.size w);have H : (if (mn (mx a0 0) 4611686018427387904) < 64 then ((althingref1_low.f k (wrap64 ((mn (mx a0 0) 4611686018427387904) * 4)) 1).bind fun t216=>(some t216)) else (if (mn (mx a0 0) 4611686018427387904) < 16384 then ((althingref1_low.f k (Go.bits .or .i64 (wrap64 ((mn (mx a0 0) 4611686018427387904) * 4)) 1) 2).bind fun t219=>(some t219)) else (if (mn (mx a0 0) 4611686018427387904) < 1073741824 then ((althingref1_low.f k (Go.bits .or .i64 (wrap64 ((mn (mx a0 0) 4611686018427387904) * 4)) 2) 4).bind fun t222=>(some t222)) else (althingref1_Num.l0 k (mn (mx a0 0) 4611686018427387904) 4)))) = some r:=h;clear h;obtain ⟨ji2,hji2⟩ : ∃ j_ : Int,(mx a0 0) = j_:=⟨_,rfl⟩
 replace H : (if (mn (ji2) 4611686018427387904) < 64 then ((althingref1_low.f k (wrap64 ((mn (ji2) 4611686018427387904) * 4)) 1).bind fun t216=>(some t216)) else (if (mn (ji2) 4611686018427387904) < 16384 then ((althingref1_low.f k (Go.bits .or .i64 (wrap64 ((mn (ji2) 4611686018427387904) * 4)) 1) 2).bind fun t219=>(some t219)) else (if (mn (ji2) 4611686018427387904) < 1073741824 then ((althingref1_low.f k (Go.bits .or .i64 (wrap64 ((mn (ji2) 4611686018427387904) * 4)) 2) 4).bind fun t222=>(some t222)) else (althingref1_Num.l0 k (mn (ji2) 4611686018427387904) 4)))) = some r:=by first | (rw [hji2] at H;exact H) | (simp only [hji2] at H ⊢;exact H)
 (try (have hji2l : 0 ≤ ji2:=by (rw [← hji2];unfold mx;(repeat' split) <;> omega)))
 (try (have hji2m : 0 ≤ ji2:=by omega))
 have hji2_ : (if a0 < 0 then 0 else a0) = ji2:=hji2;obtain ⟨ji3,hji3⟩ : ∃ j_ : Int,(mn (ji2) 4611686018427387904) = j_:=⟨_,rfl⟩
 replace H : (if (ji3) < 64 then ((althingref1_low.f k (wrap64 ((ji3) * 4)) 1).bind fun t216=>(some t216)) else (if (ji3) < 16384 then ((althingref1_low.f k (Go.bits .or .i64 (wrap64 ((ji3) * 4)) 1) 2).bind fun t219=>(some t219)) else (if (ji3) < 1073741824 then ((althingref1_low.f k (Go.bits .or .i64 (wrap64 ((ji3) * 4)) 2) 4).bind fun t222=>(some t222)) else (althingref1_Num.l0 k ji3 4)))) = some r:=by first | (rw [hji3] at H;exact H) | (simp only [hji3] at H ⊢;exact H)
 have hji3_ : (if 4611686018427387904 < (ji2) then 4611686018427387904 else (ji2)) = ji3:=hji3
 by_cases c4 : (ji3) < 64
 ·rw [if_pos c4] at H;have c4b0 : decide ((ji3) < 64) = true:=decide_eq_true c4;clear c4;replace H:=Option.bind_eq_some_iff.mp H;obtain ⟨t216,A50,H⟩:=H;replace H : (some t216) = some r:=H;have A5:=am A50;clear A50;obtain rfl:=Option.some.inj H;go_enter Try.func36,Try.ntmps36
  go_wp2_with (first | ((with_reducible refine gate_callee (f:=58) rfl ?_);refine goesL_ (some 12) rfl rfl Try.func58 (by kernel_rfl) rfl #[.int .i64 (wrap64 ((ji3) * 4)),.int .i64 1] rfl (by (try simp only [List.map_toArray,List.map_cons,List.map_nil]);first | done | (simp only [hji3];rfl) | rfl | (simp only [List.length_drop,List.length_take];rfl)) ?_;(with_reducible refine (althingref1_low.calls k (wrap64 ((ji3) * 4)) 1 t216 _ A5.out).mono ?_);rintro e w6 ⟨v217,rfl,ho0,hb⟩;refine ⟨_,rfl,?_⟩;have n0_:=am (Kd.R_lower ho0 (below_size (by exact bq HB.out)));have n1_:=am (below_step (by exact bq HB.out) hb);clear HB;have HO218:=n0_;have HB:=n1_;clear n0_ n1_;(try clear hb);(try clear hb2);(try clear hk);(try clear hi);(try clear ho0)))
  go_ret
  exact ⟨_,by first | rfl | (simp [errW_none,errW_some] <;> rfl) | (simp only [← hji2,← hji3];first | rfl | (simp [errW_none,errW_some] <;> rfl)) | (simp [*,errW_none,errW_some] <;> rfl),by exact dq HO218.out,by exact bq HB.out⟩
 rw [if_neg c4] at H;have c4b0 : decide ((ji3) < 64) = false:=decide_eq_false c4;clear c4
 by_cases c7 : (ji3) < 16384
 ·rw [if_pos c7] at H;have c7b0 : decide ((ji3) < 16384) = true:=decide_eq_true c7;clear c7;replace H:=Option.bind_eq_some_iff.mp H;obtain ⟨t219,A80,H⟩:=H;replace H : (some t219) = some r:=H;have A8:=am A80;clear A80;obtain rfl:=Option.some.inj H;go_enter Try.func36,Try.ntmps36
  go_wp2_with (first | ((with_reducible refine gate_callee (f:=58) rfl ?_);refine goesL_ (some 19) rfl rfl Try.func58 (by kernel_rfl) rfl #[.int .i64 (Go.bits .or .i64 (wrap64 ((ji3) * 4)) 1),.int .i64 2] rfl (by (try simp only [List.map_toArray,List.map_cons,List.map_nil]);first | done | (simp only [hji3];rfl) | rfl | (simp only [List.length_drop,List.length_take];rfl)) ?_;(with_reducible refine (althingref1_low.calls k (Go.bits .or .i64 (wrap64 ((ji3) * 4)) 1) 2 t219 _ A8.out).mono ?_);rintro e w9 ⟨v220,rfl,ho0,hb⟩;refine ⟨_,rfl,?_⟩;have n0_:=am (Kd.R_lower ho0 (below_size (by exact bq HB.out)));have n1_:=am (below_step (by exact bq HB.out) hb);clear HB;have HO221:=n0_;have HB:=n1_;clear n0_ n1_;(try clear hb);(try clear hb2);(try clear hk);(try clear hi);(try clear ho0)))
  go_ret
  exact ⟨_,by first | rfl | (simp [errW_none,errW_some] <;> rfl) | (simp only [← hji2,← hji3];first | rfl | (simp [errW_none,errW_some] <;> rfl)) | (simp [*,errW_none,errW_some] <;> rfl),by exact dq HO221.out,by exact bq HB.out⟩
 rw [if_neg c7] at H;have c7b0 : decide ((ji3) < 16384) = false:=decide_eq_false c7;clear c7
 by_cases c10 : (ji3) < 1073741824
 ·rw [if_pos c10] at H;have c10b0 : decide ((ji3) < 1073741824) = true:=decide_eq_true c10;clear c10;replace H:=Option.bind_eq_some_iff.mp H;obtain ⟨t222,A110,H⟩:=H;replace H : (some t222) = some r:=H;have A11:=am A110;clear A110;obtain rfl:=Option.some.inj H;go_enter Try.func36,Try.ntmps36
  go_wp2_with (first | ((with_reducible refine gate_callee (f:=58) rfl ?_);refine goesL_ (some 26) rfl rfl Try.func58 (by kernel_rfl) rfl #[.int .i64 (Go.bits .or .i64 (wrap64 ((ji3) * 4)) 2),.int .i64 4] rfl (by (try simp only [List.map_toArray,List.map_cons,List.map_nil]);first | done | (simp only [hji3];rfl) | rfl | (simp only [List.length_drop,List.length_take];rfl)) ?_;(with_reducible refine (althingref1_low.calls k (Go.bits .or .i64 (wrap64 ((ji3) * 4)) 2) 4 t222 _ A11.out).mono ?_);rintro e w12 ⟨v223,rfl,ho0,hb⟩;refine ⟨_,rfl,?_⟩;have n0_:=am (Kd.R_lower ho0 (below_size (by exact bq HB.out)));have n1_:=am (below_step (by exact bq HB.out) hb);clear HB;have HO224:=n0_;have HB:=n1_;clear n0_ n1_;(try clear hb);(try clear hb2);(try clear hk);(try clear hi);(try clear ho0)))
  go_ret
  exact ⟨_,by first | rfl | (simp [errW_none,errW_some] <;> rfl) | (simp only [← hji2,← hji3];first | rfl | (simp [errW_none,errW_some] <;> rfl)) | (simp [*,errW_none,errW_some] <;> rfl),by exact dq HO224.out,by exact bq HB.out⟩
 rw [if_neg c10] at H;have c10b0 : decide ((ji3) < 1073741824) = false:=decide_eq_false c10;clear c10;have H':=am H;clear H;go_enter Try.func36,Try.ntmps36
 go_wp2
 go_loopg [3] k (fun kq v3 w'=>∃ (x3_1 : Int),v3 = .int .i64 x3_1 ∧ Aside0 (althingref1_Num.l0 kq ji3 x3_1 = some r) ∧ Aside0 (kq ≤ k) ∧ Aside0 (Below w.heap.size w w'))
 case atStart=>exact ⟨(4),(by first | rfl | (simp;done) | (simp [*];done)),H',⟨Nat.le_refl _⟩,⟨by exact bq HB.out⟩⟩
 case round=>
  clear H'
  try clear c1
  try clear p2
  try clear c3
  try clear c4
  try clear c4b0
  try clear c5
  try clear p6
  try clear c7
  try clear c7b0
  try clear c10
  try clear c10b0
  obtain ⟨x3_1,rfl,HA,HK1,HB⟩:=hrel
  cases gk with
  | zero=>exact absurd HA.out (by simp [althingref1_Num.l0])
  | succ k1=>
    have H:=HA.out;clear HA;simp only [althingref1_Num.l0] at H
    by_cases c13 : x3_1 < 8
    rotate_left
    ·rw [if_neg c13] at H;have c13b0 : decide (x3_1 < 8) = false:=decide_eq_false c13;clear c13;obtain ⟨y234,hy234⟩ : ∃ y_ : List Int,y_ = (([(Go.bits .or .i64 (wrap64 ((wrap64 (x3_1 - 4)) * 4)) 3) % 256] : List Int)):=⟨_,rfl⟩
     replace H : ((althingref1_low.f k1 ji3 x3_1).bind fun t237=>(if y234.length + t237.length < 140737488355328 then (some (y234 ++ t237)) else (none))) = some r:=by first | (rw [hy234];with_reducible exact H) | (have H2_:=(Option.bind_some _ _).symm.trans H;rw [hy234];with_reducible exact H2_) | (have H2_:=(Option.bind_some _ _).symm.trans H;with_reducible exact H2_) | with_reducible exact H | (rw [hy234];exact H) | exact H
     have Ny234:=am hy234;clear hy234;replace H:=Option.bind_eq_some_iff.mp H;obtain ⟨t237,A250,H⟩:=H;replace H : (if y234.length + t237.length < 140737488355328 then (some (y234 ++ t237)) else (none)) = some r:=H;have A25:=am A250;clear A250
     by_cases c26 : y234.length + t237.length < 140737488355328
     rotate_left
     ·rw [if_neg c26] at H;exact absurd H (by simp)
     rw [if_pos c26] at H;have LMc26:=am c26;clear c26;obtain ⟨y240,hy240⟩ : ∃ y_ : List Int,y_ = (y234 ++ t237):=⟨_,rfl⟩
     replace H : (some y240) = some r:=by first | (rw [hy240];with_reducible exact H) | (have H2_:=(Option.bind_some _ _).symm.trans H;rw [hy240];with_reducible exact H2_) | (have H2_:=(Option.bind_some _ _).symm.trans H;with_reducible exact H2_) | with_reducible exact H | (rw [hy240];exact H) | exact H
     have Ny240:=am hy240;clear hy240;obtain rfl:=Option.some.inj H
     go_wp2_with (first | ((with_reducible refine gate_dst (N:=44) rfl ?_);refine Kd.R_lit (Kd.int .u8) _ 5 ?hg (N:=44) ?hd (xs:=([(Go.bits .or .i64 (wrap64 ((wrap64 (x3_1 - 4)) * 4)) 3) % 256] : List Int)) (inner:=[.int .u8 ((Go.bits .or .i64 (wrap64 ((wrap64 (x3_1 - 4)) * 4)) 3) % 256)]) (ok:=fun _=>True) (okp:=fun _=>True) ?hr ?hp (fun _ hk=>hk) trivial (Below.refl _ _) (Nat.le_refl _) (by simp) ?_;(case hd=>rfl);(case hg=>rfl);(case hr=>first | (go_simp;done) | (go_simp;rfl));(case hp=>exact (Reps.one (show Kd.M (Kd.int .u8) _ _ _ ((Go.bits .or .i64 (wrap64 ((wrap64 (x3_1 - 4)) * 4)) 3) % 256) [.int .u8 ((Go.bits .or .i64 (wrap64 ((wrap64 (x3_1 - 4)) * 4)) 3) % 256)] from rfl) (Reps.none _ _)));intro v235 w27 ho28 hb hg_ hnew_;clear hg_ hnew_;(first | rw [← Ny234.out] at ho28 | (simp only [Int.reduceToNat] at ho28;rw [← Ny234.out] at ho28));have n0_:=am (Kd.R_lower ho28 (below_size (by exact bq HB.out)));have n1_:=am (below_step (by exact bq HB.out) hb);clear HB;have HO236:=n0_;have HB:=n1_;clear n0_ n1_;clear hb ho28) | ((with_reducible refine gate_callee (f:=58) rfl ?_);refine goesL_ (some 47) rfl rfl Try.func58 (by kernel_rfl) rfl #[.int .i64 ji3,.int .i64 x3_1] rfl (by (try simp only [List.map_toArray,List.map_cons,List.map_nil]);first | done | (simp only [hji3];rfl) | rfl | (simp only [List.length_drop,List.length_take];rfl)) ?_;(with_reducible refine (althingref1_low.calls k1 ji3 x3_1 t237 _ A25.out).mono ?_);rintro e w29 ⟨v238,rfl,ho0,hb⟩;refine ⟨_,rfl,?_⟩;have n0_:=am (Kd.R_elder' (by exact dq HO236.out) (Kd.R_base ho0) hb);have n1_:=am (Kd.R_lower (Kd.R_new' ho0 (Kd.R_lt (by exact dq HO236.out))) (below_size (by exact bq HB.out)));have n2_:=am (below_step (by exact bq HB.out) hb);clear HO236;clear HB;have HO236:=n0_;have HO239:=n1_;have HB:=n2_;clear n0_ n1_ n2_;(try clear hb);(try clear hb2);(try clear hk);(try clear hi);(try clear ho0);obtain ⟨Ao31,co31,eo31⟩:=Kd.R_slice HO239.out;subst eo31) | ((with_reducible refine gate_builtin (b:= .append) (xs:=#[.tmp 44,.tmp 47]) rfl ?_);at_builtin;refine Kd.R_append_rows (Kd.int .u8) (w0:=w) w.heap.size rfl (.tmp 44) (.tmp 47) 38 5 (.int .u8 0) 1 rfl Try.underlying38 info5 rfl (by decide) (by omega) v235 y234 t237 _ _ _ (fun k_=>some k_ ≠ (.slice Ao31 t237.length co31 : Value).ownBlock) (fun _=>False) rfl rfl ?aO ?aR (fun _ _ h=>h) (fun _ h=>h.elim) ?aF ?aB ?aS ?aL ?_;(case aR=>repeat (first | exact (Kd.R_reads' HO239.out).2.2 | (with_reducible refine Kd.C_alloc ?_ _) | (with_reducible refine Kd.C_drewN ?_ _) | (with_reducible refine Kd.C_drew ?_)));(case aB=>exact (by exact bq HB.out));(case aF=>exact (fun k_ hk=>Kd.fresh' (Kd.R_lt (by exact dq HO239.out)) k_ hk));(case aO=>exact (by (with_reducible repeat (first | apply Kd.R_alloc | apply Kd.R_drewN | apply Kd.R_drew));exact Kd.R_mono HO236.out (fun _ hk=>hk.2)));(case aS=>exact (below_size (by exact bq HB.out)));(case aL=>have:=LMc26.out;omega);intro v241 w30 ho hb hg hat;rw [← Ny240.out] at ho;have n0_:=am (Kd.R_after (ok:=(fun _=>True)) (by exact dq HO239.out) hg hat);have n1_:=am (hb);have n2_:=am (ho);clear HO239;clear HB;clear HO236;have HO239:=n0_;have HB:=n1_;have HO242:=n2_;clear n0_ n1_ n2_;clear ho hb hg hat))
     go_ret
     exact ⟨_,by first | rfl | (simp [errW_none,errW_some] <;> rfl) | (simp only [← hji2,← hji3];first | rfl | (simp [errW_none,errW_some] <;> rfl)) | (simp [*,errW_none,errW_some] <;> rfl),by (with_reducible repeat (first | apply Kd.R_alloc | apply Kd.R_drewN | apply Kd.R_drew));exact Kd.R_mono HO242.out (fun _ hk=>trivial),by exact bq HB.out⟩
    rw [if_pos c13] at H;have c13b0 : decide (x3_1 < 8) = true:=decide_eq_true c13;clear c13;obtain ⟨ji14,hji14⟩ : ∃ j_ : Int,(IntKind.u64.wrap (wrap64 (8 * x3_1))) = j_:=⟨_,rfl⟩
    replace H : (if 0 ≤ (ji14) then (if (shr .i64 ji3 (ji14)) > 0 then (althingref1_Num.l0 k1 ji3 (wrap64 (x3_1 + 1))) else ((some (([(Go.bits .or .i64 (wrap64 ((wrap64 (x3_1 - 4)) * 4)) 3) % 256] : List Int) : List Int)).bind fun y225=>((althingref1_low.f k1 ji3 x3_1).bind fun t228=>(if y225.length + t228.length < 140737488355328 then (some (y225 ++ t228)) else (none))))) else (none)) = some r:=by first | (rw [hji14] at H;exact H) | (simp only [hji14] at H ⊢;exact H)
    by_cases c15 : 0 ≤ (ji14)
    rotate_left
    ·rw [if_neg c15] at H;exact absurd H (by simp)
    rw [if_pos c15] at H;have c15b0:=eq_true c15;have c15b1 : decide (0 ≤ (ji14)) = true:=decide_eq_true c15;clear c15;obtain ⟨ji16,hji16⟩ : ∃ j_ : Int,(shr .i64 ji3 (ji14)) = j_:=⟨_,rfl⟩
    replace H : (if (ji16) > 0 then (althingref1_Num.l0 k1 ji3 (wrap64 (x3_1 + 1))) else ((some (([(Go.bits .or .i64 (wrap64 ((wrap64 (x3_1 - 4)) * 4)) 3) % 256] : List Int) : List Int)).bind fun y225=>((althingref1_low.f k1 ji3 x3_1).bind fun t228=>(if y225.length + t228.length < 140737488355328 then (some (y225 ++ t228)) else (none))))) = some r:=by first | (rw [hji16] at H;exact H) | (simp only [hji16] at H ⊢;exact H)
    have hji16_ : (ji3 / 2 ^ min (ji14).toNat 64) = ji16:=hji16;have hji16z : (ji14) ≤ 64 → (ji3 / 2 ^ (ji14).toNat) = ji16:=shr_small hji16
    by_cases c17 : (ji16) > 0
    ·rw [if_pos c17] at H;have c17b0 : decide (0 < (ji16)) = true:=decide_eq_true c17;clear c17;have H':=am H;clear H
     go_wp2
     go_roundg k1
     case measure=>have:=HK1.out;omega
     case rel=>exact ⟨(wrap64 (x3_1 + 1)),(by first | rfl | (simp;done) | (simp [*];done)),H',⟨by have:=HK1.out;omega⟩,⟨by exact bq HB.out⟩⟩
    rw [if_neg c17] at H;have c17b0 : decide (0 < (ji16)) = false:=decide_eq_false c17;clear c17;obtain ⟨y225,hy225⟩ : ∃ y_ : List Int,y_ = (([(Go.bits .or .i64 (wrap64 ((wrap64 (x3_1 - 4)) * 4)) 3) % 256] : List Int)):=⟨_,rfl⟩
    replace H : ((althingref1_low.f k1 ji3 x3_1).bind fun t228=>(if y225.length + t228.length < 140737488355328 then (some (y225 ++ t228)) else (none))) = some r:=by first | (rw [hy225];with_reducible exact H) | (have H2_:=(Option.bind_some _ _).symm.trans H;rw [hy225];with_reducible exact H2_) | (have H2_:=(Option.bind_some _ _).symm.trans H;with_reducible exact H2_) | with_reducible exact H | (rw [hy225];exact H) | exact H
    have Ny225:=am hy225;clear hy225;replace H:=Option.bind_eq_some_iff.mp H;obtain ⟨t228,A180,H⟩:=H;replace H : (if y225.length + t228.length < 140737488355328 then (some (y225 ++ t228)) else (none)) = some r:=H;have A18:=am A180;clear A180
    by_cases c19 : y225.length + t228.length < 140737488355328
    rotate_left
    ·rw [if_neg c19] at H;exact absurd H (by simp)
    rw [if_pos c19] at H;have LMc19:=am c19;clear c19;obtain ⟨y231,hy231⟩ : ∃ y_ : List Int,y_ = (y225 ++ t228):=⟨_,rfl⟩
    replace H : (some y231) = some r:=by first | (rw [hy231];with_reducible exact H) | (have H2_:=(Option.bind_some _ _).symm.trans H;rw [hy231];with_reducible exact H2_) | (have H2_:=(Option.bind_some _ _).symm.trans H;with_reducible exact H2_) | with_reducible exact H | (rw [hy231];exact H) | exact H
    have Ny231:=am hy231;clear hy231;obtain rfl:=Option.some.inj H
    go_wp2_with (first | ((with_reducible refine gate_dst (N:=44) rfl ?_);refine Kd.R_lit (Kd.int .u8) _ 5 ?hg (N:=44) ?hd (xs:=([(Go.bits .or .i64 (wrap64 ((wrap64 (x3_1 - 4)) * 4)) 3) % 256] : List Int)) (inner:=[.int .u8 ((Go.bits .or .i64 (wrap64 ((wrap64 (x3_1 - 4)) * 4)) 3) % 256)]) (ok:=fun _=>True) (okp:=fun _=>True) ?hr ?hp (fun _ hk=>hk) trivial (Below.refl _ _) (Nat.le_refl _) (by simp) ?_;(case hd=>rfl);(case hg=>rfl);(case hr=>first | (go_simp;done) | (go_simp;rfl));(case hp=>exact (Reps.one (show Kd.M (Kd.int .u8) _ _ _ ((Go.bits .or .i64 (wrap64 ((wrap64 (x3_1 - 4)) * 4)) 3) % 256) [.int .u8 ((Go.bits .or .i64 (wrap64 ((wrap64 (x3_1 - 4)) * 4)) 3) % 256)] from rfl) (Reps.none _ _)));intro v226 w20 ho21 hb hg_ hnew_;clear hg_ hnew_;(first | rw [← Ny225.out] at ho21 | (simp only [Int.reduceToNat] at ho21;rw [← Ny225.out] at ho21));have n0_:=am (Kd.R_lower ho21 (below_size (by exact bq HB.out)));have n1_:=am (below_step (by exact bq HB.out) hb);clear HB;have HO227:=n0_;have HB:=n1_;clear n0_ n1_;clear hb ho21) | ((with_reducible refine gate_callee (f:=58) rfl ?_);refine goesL_ (some 47) rfl rfl Try.func58 (by kernel_rfl) rfl #[.int .i64 ji3,.int .i64 x3_1] rfl (by (try simp only [List.map_toArray,List.map_cons,List.map_nil]);first | done | (simp only [hji3];rfl) | rfl | (simp only [List.length_drop,List.length_take];rfl)) ?_;(with_reducible refine (althingref1_low.calls k1 ji3 x3_1 t228 _ A18.out).mono ?_);rintro e w22 ⟨v229,rfl,ho0,hb⟩;refine ⟨_,rfl,?_⟩;have n0_:=am (Kd.R_elder' (by exact dq HO227.out) (Kd.R_base ho0) hb);have n1_:=am (Kd.R_lower (Kd.R_new' ho0 (Kd.R_lt (by exact dq HO227.out))) (below_size (by exact bq HB.out)));have n2_:=am (below_step (by exact bq HB.out) hb);clear HO227;clear HB;have HO227:=n0_;have HO230:=n1_;have HB:=n2_;clear n0_ n1_ n2_;(try clear hb);(try clear hb2);(try clear hk);(try clear hi);(try clear ho0);obtain ⟨Ao24,co24,eo24⟩:=Kd.R_slice HO230.out;subst eo24) | ((with_reducible refine gate_builtin (b:= .append) (xs:=#[.tmp 44,.tmp 47]) rfl ?_);at_builtin;refine Kd.R_append_rows (Kd.int .u8) (w0:=w) w.heap.size rfl (.tmp 44) (.tmp 47) 38 5 (.int .u8 0) 1 rfl Try.underlying38 info5 rfl (by decide) (by omega) v226 y225 t228 _ _ _ (fun k_=>some k_ ≠ (.slice Ao24 t228.length co24 : Value).ownBlock) (fun _=>False) rfl rfl ?aO ?aR (fun _ _ h=>h) (fun _ h=>h.elim) ?aF ?aB ?aS ?aL ?_;(case aR=>repeat (first | exact (Kd.R_reads' HO230.out).2.2 | (with_reducible refine Kd.C_alloc ?_ _) | (with_reducible refine Kd.C_drewN ?_ _) | (with_reducible refine Kd.C_drew ?_)));(case aB=>exact (by exact bq HB.out));(case aF=>exact (fun k_ hk=>Kd.fresh' (Kd.R_lt (by exact dq HO230.out)) k_ hk));(case aO=>exact (by (with_reducible repeat (first | apply Kd.R_alloc | apply Kd.R_drewN | apply Kd.R_drew));exact Kd.R_mono HO227.out (fun _ hk=>hk.2)));(case aS=>exact (below_size (by exact bq HB.out)));(case aL=>have:=LMc19.out;omega);intro v232 w23 ho hb hg hat;rw [← Ny231.out] at ho;have n0_:=am (Kd.R_after (ok:=(fun _=>True)) (by exact dq HO230.out) hg hat);have n1_:=am (hb);have n2_:=am (ho);clear HO230;clear HB;clear HO227;have HO230:=n0_;have HB:=n1_;have HO233:=n2_;clear n0_ n1_ n2_;clear ho hb hg hat))
    go_ret
    exact ⟨_,by first | rfl | (simp [errW_none,errW_some] <;> rfl) | (simp only [← hji2,← hji3,← hji14,← hji16];first | rfl | (simp [errW_none,errW_some] <;> rfl)) | (simp [*,errW_none,errW_some] <;> rfl),by (with_reducible repeat (first | apply Kd.R_alloc | apply Kd.R_drewN | apply Kd.R_drew));exact Kd.R_mono HO233.out (fun _ hk=>trivial),by exact bq HB.out⟩
/-! ### althingref1_Nums: function 15 -/
def althingref1_Nums.l0 : Nat → List Int → List Int → Int → Option (List Int)
 | 0,_,_,_=>none
 | k + 1,x0,x3,x4=>if x4 < (x0.length : Int) then (if 0 ≤ x4 then ((althingref1_Num.f k (rd x0 x4)).bind fun t244=>(if x3.length + t244.length < 140737488355328 then (althingref1_Nums.l0 k x0 (x3 ++ t244) (wrap64 (x4 + 1))) else (none))) else (none)) else (some x3)
def althingref1_Nums.f (k : Nat) (l0 : List Int) : Option (List Int):=althingref1_Nums.l0 k l0 ([] : List Int) 0
set_option maxHeartbeats 8000000 in
set_option maxRecDepth 100000 in
theorem althingref1_Nums.calls (k : Nat) (A0 : Option Addr) (c0 : Nat) (l0 : List Int) (r : List Int) (w : World) (hr0 : Kd.C (Kd.int .i64) w A0 l0.length l0) (hc0 : l0.length ≤ c0) (h : althingref1_Nums.f k l0 = some r) :
 Calls Try.prog 15 #[.slice A0 l0.length c0] w fun e w'=>∃ v0_ : Value,e = .returned (v0_) ∧ Kd.R (Kd.int .u8) 5 w' w.heap.size (fun _=>True) v0_ r ∧ Below w.heap.size w w':=by
 have HR0:=am hr0;have HC0:=am hc0;clear hr0 hc0;have HB:=am (Below.refl w.heap.size w);have H : (althingref1_Nums.l0 k l0 ([] : List Int) 0) = some r:=h;clear h;have H':=am H;clear H;go_enter Try.func15,Try.ntmps15
 go_wp2
 go_loopg [3,4] k (fun kq v3 v4 w'=>∃ (x3_1 : List Int) (x4_1 : Int),v4 = .int .i64 x4_1 ∧ Aside0 (althingref1_Nums.l0 kq l0 x3_1 x4_1 = some r) ∧ Aside0 (kq ≤ k) ∧ Aside0 (Kd.R (Kd.int .u8) 5 w' w.heap.size (fun _=>True) v3 x3_1) ∧ Aside0 (Below w.heap.size w w'))
 case atStart=>exact ⟨(([] : List Int)),(0),(by first | rfl | (simp;done) | (simp [*];done)),H',⟨Nat.le_refl _⟩,⟨by first | exact Kd.R_nil _ _ _ _ _ | exact Kd.N_nil _ _ _ _ _ | exact Kd.V_nil _ _ _ _ _ | exact Kd.Q_nil _ _ _ _ _ | exact Kd.S_nil _ _ _ _ _⟩,⟨by exact bq HB.out⟩⟩
 case round=>
  clear H'
  try clear c1
  obtain ⟨x3_1,x4_1,rfl,HA,HK1,HO_3,HB⟩:=hrel
  cases gk with
  | zero=>exact absurd HA.out (by simp [althingref1_Nums.l0])
  | succ k1=>
    have H:=HA.out;clear HA;simp only [althingref1_Nums.l0] at H
    by_cases c2 : x4_1 < (l0.length : Int)
    rotate_left
    ·rw [if_neg c2] at H;have c2b0 : decide (x4_1 < (l0.length : Int)) = false:=decide_eq_false c2;clear c2;obtain rfl:=Option.some.inj H
     go_wp2
     go_ret
     exact ⟨_,by first | rfl | (simp [errW_none,errW_some] <;> rfl) | (simp [*,errW_none,errW_some] <;> rfl),by exact dq HO_3.out,by exact bq HB.out⟩
    rw [if_pos c2] at H;have c2b0 : decide (x4_1 < (l0.length : Int)) = true:=decide_eq_true c2;clear c2
    by_cases c3 : 0 ≤ x4_1
    rotate_left
    ·rw [if_neg c3] at H;exact absurd H (by simp)
    rw [if_pos c3] at H;have c3b0 : decide (0 ≤ x4_1) = true:=decide_eq_true c3;clear c3;replace H:=Option.bind_eq_some_iff.mp H;obtain ⟨t244,A40,H⟩:=H;replace H : (if x3_1.length + t244.length < 140737488355328 then (althingref1_Nums.l0 k1 l0 (x3_1 ++ t244) (wrap64 (x4_1 + 1))) else (none)) = some r:=H;have A4:=am A40;clear A40
    by_cases c5 : x3_1.length + t244.length < 140737488355328
    rotate_left
    ·rw [if_neg c5] at H;exact absurd H (by simp)
    rw [if_pos c5] at H;have LMc5:=am c5;clear c5;obtain ⟨y247,hy247⟩ : ∃ y_ : List Int,y_ = (x3_1 ++ t244):=⟨_,rfl⟩
    replace H : (althingref1_Nums.l0 k1 l0 y247 (wrap64 (x4_1 + 1))) = some r:=by first | (rw [hy247];with_reducible exact H) | (have H2_:=(Option.bind_some _ _).symm.trans H;rw [hy247];with_reducible exact H2_) | (have H2_:=(Option.bind_some _ _).symm.trans H;with_reducible exact H2_) | with_reducible exact H | (rw [hy247];exact H) | exact H
    have Ny247:=am hy247;clear hy247;have H':=am H;clear H;have p243 : 0 ≤ (x4_1 : Int):=of_decide_eq_true (by first | (with_reducible assumption) | assumption);have q243 : x4_1 < (l0.length : Int):=of_decide_eq_true (by first | (with_reducible assumption) | assumption);obtain ⟨ad243,e243,hx243_0⟩:=Kd.at_int HR0.out x4_1 p243 q243;cases e243;replace hx243_0:=(HB.out.cell (World.block_lt_of_cell? w _ hx243_0)).trans hx243_0;replace p243:=eq_true p243;replace q243:=eq_true q243
    go_wp2_with (first | ((with_reducible refine gate_callee (f:=36) rfl ?_);refine gl (some 16) Try.func36 #[.int .i64 (rd l0 x4_1)] ?_;(with_reducible refine (althingref1_Num.calls k1 (rd l0 x4_1) t244 _ A4.out).mono ?_);rintro e w6 ⟨v245,rfl,ho0,hb⟩;refine ⟨_,rfl,?_⟩;have n0_:=am (Kd.R_elder' (by exact dq HO_3.out) (Kd.R_base ho0) hb);have n1_:=am (Kd.R_lower (Kd.R_new' ho0 (Kd.R_lt (by exact dq HO_3.out))) (below_size (by exact bq HB.out)));have n2_:=am (below_step (by exact bq HB.out) hb);clear HO_3;clear HB;have HO_3:=n0_;have HO246:=n1_;have HB:=n2_;clear n0_ n1_ n2_;(try clear hb);(try clear hb2);(try clear hk);(try clear hi);(try clear ho0);obtain ⟨Ao8,co8,eo8⟩:=Kd.R_slice HO246.out;subst eo8) | ((with_reducible refine gate_builtin (b:= .append) (xs:=#[.tmp 11,.tmp 16]) rfl ?_);at_builtin;refine Kd.R_append_rows (Kd.int .u8) (w0:=w) w.heap.size rfl (.tmp 11) (.tmp 16) 38 5 (.int .u8 0) 1 rfl Try.underlying38 info5 rfl (by decide) (by omega) u3 x3_1 t244 _ _ _ (fun k_=>some k_ ≠ (.slice Ao8 t244.length co8 : Value).ownBlock) (fun _=>False) rfl rfl ?aO ?aR (fun _ _ h=>h) (fun _ h=>h.elim) ?aF ?aB ?aS ?aL ?_;(case aR=>repeat (first | exact (Kd.R_reads' HO246.out).2.2 | (with_reducible refine Kd.C_alloc ?_ _) | (with_reducible refine Kd.C_drewN ?_ _) | (with_reducible refine Kd.C_drew ?_)));(case aB=>exact (by exact bq HB.out));(case aF=>exact (fun k_ hk=>Kd.fresh' (Kd.R_lt (by exact dq HO246.out)) k_ hk));(case aO=>exact (by (with_reducible repeat (first | apply Kd.R_alloc | apply Kd.R_drewN | apply Kd.R_drew));exact Kd.R_mono HO_3.out (fun _ hk=>hk.2)));(case aS=>exact (below_size (by exact bq HB.out)));(case aL=>have:=LMc5.out;omega);intro v248 w7 ho hb hg hat;rw [← Ny247.out] at ho;have n0_:=am (Kd.R_after (ok:=(fun _=>True)) (by exact dq HO246.out) hg hat);have n1_:=am (hb);have n2_:=am (ho);clear HO246;clear HB;clear HO_3;have HO246:=n0_;have HB:=n1_;have HO249:=n2_;clear n0_ n1_ n2_;clear ho hb hg hat))
    go_roundg k1
    case measure=>have:=HK1.out;omega
    case rel=>exact ⟨(y247),(wrap64 (x4_1 + 1)),(by first | rfl | (simp;done) | (simp [*];done)),H',⟨by have:=HK1.out;omega⟩,⟨by (with_reducible repeat (first | apply Kd.R_alloc | apply Kd.R_drewN | apply Kd.R_drew));exact Kd.R_mono HO249.out (fun _ hk=>trivial)⟩,⟨by exact bq HB.out⟩⟩
/-! ### althingref1_Row: function 18 -/
def althingref1_Row.f (k : Nat) (l0 : List Int) : Option (List Int):=(althingref1_Num.f k (l0.length : Int)).bind fun t250=>(if t250.length + l0.length < 140737488355328 then (some (t250 ++ l0)) else (none))
set_option maxHeartbeats 8000000 in
set_option maxRecDepth 100000 in
theorem althingref1_Row.calls (k : Nat) (A0 : Option Addr) (c0 : Nat) (l0 : List Int) (r : List Int) (w : World) (hr0 : Kd.C (Kd.int .u8) w A0 l0.length l0) (hc0 : l0.length ≤ c0) (h : althingref1_Row.f k l0 = some r) :
 Calls Try.prog 18 #[.slice A0 l0.length c0] w fun e w'=>∃ v0_ : Value,e = .returned (v0_) ∧ Kd.R (Kd.int .u8) 5 w' w.heap.size (fun _=>True) v0_ r ∧ Below w.heap.size w w':=by
 have HR0:=am hr0;have HC0:=am hc0;clear hr0 hc0;have HB:=am (Below.refl w.heap.size w);have H : ((althingref1_Num.f k (l0.length : Int)).bind fun t250=>(if t250.length + l0.length < 140737488355328 then (some (t250 ++ l0)) else (none))) = some r:=h;clear h;replace H:=Option.bind_eq_some_iff.mp H;obtain ⟨t250,A20,H⟩:=H;replace H : (if t250.length + l0.length < 140737488355328 then (some (t250 ++ l0)) else (none)) = some r:=H;have A2:=am A20;clear A20
 by_cases c3 : t250.length + l0.length < 140737488355328
 rotate_left
 ·rw [if_neg c3] at H;exact absurd H (by simp)
 rw [if_pos c3] at H;have LMc3:=am c3;clear c3;obtain ⟨y253,hy253⟩ : ∃ y_ : List Int,y_ = (t250 ++ l0):=⟨_,rfl⟩
 replace H : (some y253) = some r:=by first | (rw [hy253];with_reducible exact H) | (have H2_:=(Option.bind_some _ _).symm.trans H;rw [hy253];with_reducible exact H2_) | (have H2_:=(Option.bind_some _ _).symm.trans H;with_reducible exact H2_) | with_reducible exact H | (rw [hy253];exact H) | exact H
 have Ny253:=am hy253;clear hy253;obtain rfl:=Option.some.inj H;go_enter Try.func18,Try.ntmps18
 go_wp2_with (first | ((with_reducible refine gate_callee (f:=36) rfl ?_);refine gl (some 5) Try.func36 #[.int .i64 (l0.length : Int)] ?_;(with_reducible refine (althingref1_Num.calls k (l0.length : Int) t250 _ A2.out).mono ?_);rintro e w4 ⟨v251,rfl,ho0,hb⟩;refine ⟨_,rfl,?_⟩;have n0_:=am (Kd.R_lower ho0 (below_size (by exact bq HB.out)));have n1_:=am (below_step (by exact bq HB.out) hb);clear HB;have HO252:=n0_;have HB:=n1_;clear n0_ n1_;(try clear hb);(try clear hb2);(try clear hk);(try clear hi);(try clear ho0)) | ((with_reducible refine gate_builtin (b:= .append) (xs:=#[.tmp 5,.tmp 6]) rfl ?_);at_builtin;refine Kd.R_append_rows (Kd.int .u8) (w0:=w) w.heap.size rfl (.tmp 5) (.tmp 6) 38 5 (.int .u8 0) 1 rfl Try.underlying38 info5 rfl (by decide) (by omega) v251 t250 l0 _ _ _ (fun _=>True) (fun _=>False) rfl rfl ?aO ?aR (fun _ _ h=>h) (fun _ h=>h.elim) ?aF ?aB ?aS ?aL ?_;(case aR=>repeat (first | exact (Kd.C_below HR0.out HB.out) | (with_reducible refine Kd.C_alloc ?_ _) | (with_reducible refine Kd.C_drewN ?_ _) | (with_reducible refine Kd.C_drew ?_)));(case aB=>exact (by exact bq HB.out));(case aF=>exact (fun _ _=>trivial));(case aO=>exact (by exact dq HO252.out));(case aS=>exact (below_size (by exact bq HB.out)));(case aL=>have:=LMc3.out;omega);intro v254 w5 ho hb hg hat;rw [← Ny253.out] at ho;have n0_:=am (hb);have n1_:=am (ho);clear HB;clear HO252;have HB:=n0_;have HO255:=n1_;clear n0_ n1_;clear ho hb hg hat))
 go_ret
 exact ⟨_,by first | rfl | (simp [errW_none,errW_some] <;> rfl) | (simp [*,errW_none,errW_some] <;> rfl),by exact dq HO255.out,by exact bq HB.out⟩
/-! ### althinglaw7_CodeNests: function 6 -/
/-! ### code_flag: function 40 -/
def code_flag.f (a0 : Bool) : Option (Int):=if a0 = true then (some 1) else (some 0)
set_option maxHeartbeats 8000000 in
set_option maxRecDepth 100000 in
theorem code_flag.calls (a0 : Bool) (r : Int) (w : World) (h : code_flag.f a0 = some r) :
 Calls Try.prog 40 #[.bool a0] w fun e w'=>e = .returned (.int .i64 r) ∧ Drawn0 w w':=by
 have H : (if a0 = true then (some 1) else (some 0)) = some r:=h;clear h
 by_cases c2 : a0 = true
 ·subst c2
  have H1 : (some 1) = some r:=by rw [if_pos rfl] at H;exact H
  clear H;have H:=H1;clear H1;obtain rfl:=Option.some.inj H;go_enter Try.func40,Try.ntmps40
  go_wp2
  go_ret
  exact ⟨by first | rfl | (simp;done) | (simp [*];done),by repeat (first | exact Drawn0.refl _ | apply Drawn0.step)⟩
 replace c2:=Bool.eq_false_iff.mpr c2;subst c2
 have H1 : (some 0) = some r:=by rw [if_neg (show ¬ (false = true) by decide)] at H;exact H
 clear H;have H:=H1;clear H1;obtain rfl:=Option.some.inj H;go_enter Try.func40,Try.ntmps40
 go_wp2
 go_ret
 exact ⟨by first | rfl | (simp;done) | (simp [*];done),by repeat (first | exact Drawn0.refl _ | apply Drawn0.step)⟩
-- NOT PRINTED: function 19 (code_EncodeExt)
end Go.Proofs.Ytilckocpgififaa.G
