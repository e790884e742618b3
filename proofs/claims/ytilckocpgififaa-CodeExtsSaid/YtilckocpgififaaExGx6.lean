import Derived.Test.YtilckocpgififaaExHStep
import Derived.Test.YtilckocpgififaaExHIsExt
import Derived.Test.YtilckocpgififaaExHKnown
-- Laid by this session's own program gprint.py over the kit's print (given functions are proved by hand).
namespace Go.Proofs.Ytilckocpgififaa.G
open Go.RowKit Go.Proofs.YtilckocpgififaaW.PrintWords Go.Proofs.YtilckocpgififaaW.PrintLast Go.Proofs.YtilckocpgififaaW.PrintMore
attribute [local go_sem] max2_int min2_int max_two min_two max_three min_three max_four min_four   -- for this text's walks alone
set_option linter.unusedVariables false
set_option linter.unusedSimpArgs false
-- NOT PRINTED: function 5 (althinglaw7_CodeBounds)
/-! ### althinglaw7_CodeDeep: function 3 -/
/-! ### althinglaw7_size: function 12 -/
mutual
def althinglaw7_size.l0 : Nat → Int → Int → Int → Int → Int → List (S25) → Option (Int)
 | 0,_,_,_,_,_,_=>none
 | k + 1,x3,x4,x190000,x190001,x190002,x190003=>if x4 < (x190003.length : Int) then (if x3 < 300 then (if 0 ≤ x4 then ((althinglaw7_size.f k ((rd_T25 x190003 x4).f0) ((rd_T25 x190003 x4).f1) ((rd_T25 x190003 x4).f2) ((rd_T25 x190003 x4).f3)).bind fun t191=>(althinglaw7_size.l0 k (wrap64 (x3 + t191)) (wrap64 (x4 + 1)) x190000 x190001 x190002 x190003)) else (none)) else (some x3)) else (some x3)
def althinglaw7_size.f : Nat → Int → Int → Int → List (S25) → Option (Int)
 | 0,_,_,_,_=>none
 | k + 1,a0_0,a0_1,a0_2,l0_3=>althinglaw7_size.l0 k (wrap64 (1 + (l0_3.length : Int))) 0 a0_0 a0_1 a0_2 l0_3
end
theorem althinglaw7_size.mono_l : ∀ k,(∀ y0 y1 y2 y3,LeO (althinglaw7_size.f k y0 y1 y2 y3) (althinglaw7_size.f (k + 1) y0 y1 y2 y3)) ∧ (∀ y0 y1 y2 y3 y4 y5,LeO (althinglaw7_size.l0 k y0 y1 y2 y3 y4 y5) (althinglaw7_size.l0 (k + 1) y0 y1 y2 y3 y4 y5))
 | 0=>⟨fun _ _ _ _ r h=>by simp [althinglaw7_size.f] at h,fun _ _ _ _ _ _ r h=>by simp [althinglaw7_size.l0] at h⟩
 | k + 1=>by
   obtain ⟨ih0,ih1⟩:=althinglaw7_size.mono_l k;refine ⟨?_,?_⟩
   ·intro y0 y1 y2 y3
    unfold althinglaw7_size.f
    repeat' first
    | (with_reducible exact ih0 _ _ _ _)
    | (with_reducible exact ih1 _ _ _ _ _ _)
    | (with_reducible exact LeO.refl _)
    | (with_reducible exact LeO.none _)
    | (with_reducible refine LeO.ite ?_ ?_)
    | (with_reducible refine LeO.bind ?_ (fun _=>?_))
    | exact ih0 _ _ _ _
    | exact ih1 _ _ _ _ _ _
    | exact LeO.none _
    | refine LeO.ite ?_ ?_
    | refine LeO.bind ?_ (fun _=>?_)
   ·intro y0 y1 y2 y3 y4 y5
    unfold althinglaw7_size.l0
    repeat' first
    | (with_reducible exact ih0 _ _ _ _)
    | (with_reducible exact ih1 _ _ _ _ _ _)
    | (with_reducible exact LeO.refl _)
    | (with_reducible exact LeO.none _)
    | (with_reducible refine LeO.ite ?_ ?_)
    | (with_reducible refine LeO.bind ?_ (fun _=>?_))
    | exact ih0 _ _ _ _
    | exact ih1 _ _ _ _ _ _
    | exact LeO.none _
    | refine LeO.ite ?_ ?_
    | refine LeO.bind ?_ (fun _=>?_)
theorem althinglaw7_size.mono : ∀ a0 a1 a2 a3 k,LeO (althinglaw7_size.f k a0 a1 a2 a3) (althinglaw7_size.f (k + 1) a0 a1 a2 a3):=by
 intro a0 a1 a2 a3 k;obtain ⟨ih0,ih1⟩:=althinglaw7_size.mono_l k;exact ih0 a0 a1 a2 a3
set_option maxHeartbeats 8000000 in
set_option maxRecDepth 100000 in
theorem althinglaw7_size.calls (k : Nat) : ∀ (a0_0 : Int) (a0_1 : Int) (a0_2 : Int) (A0_3 : Option Addr) (c0_3 : Nat) (l0_3 : List (S25)) (r : Int) (w : World) (hr0_3 : Kd.C k25 w A0_3 l0_3.length l0_3) (hc0_3 : l0_3.length ≤ c0_3) (h : althinglaw7_size.f k a0_0 a0_1 a0_2 l0_3 = some r),
 Calls Try.prog 12 #[.agg #[.int .i64 a0_0,.int .i64 a0_1,.int .i64 a0_2,.slice A0_3 l0_3.length c0_3]] w fun e w'=>e = .returned (.int .i64 r) ∧ Below w.heap.size w w':=by
 induction k using Nat.strongRecOn with
 | _ k ih=>
 intro a0_0 a0_1 a0_2 A0_3 c0_3 l0_3 r w hr0_3 hc0_3 h
 cases k with
 | zero=>exact absurd h (by simp [althinglaw7_size.f])
 | succ k=>
 simp only [althinglaw7_size.f] at h;have hu25:=Try.underlying25;have HR0_3:=am hr0_3;have HC0_3:=am hc0_3;clear hr0_3 hc0_3;have HB:=am (Below.refl w.heap.size w);have H : (althinglaw7_size.l0 k (wrap64 (1 + (l0_3.length : Int))) 0 a0_0 a0_1 a0_2 l0_3) = some r:=h;clear h;have H':=am H;clear H;go_enter Try.func12,Try.ntmps12
 go_wp2_with (first | ((with_reducible refine gate_dst (N:=1) rfl ?_);refine box_event ?hg (N:=1) ?hd (cs:=#[.int .i64 a0_0,.int .i64 a0_1,.int .i64 a0_2,.slice A0_3 l0_3.length c0_3]) (t:=25) ?hr ?_;(case hd=>rfl);(case hg=>rfl);(case hr=>first | (go_simp;done) | (go_simp;rfl));intro gb189 hg w2 hbox hb;have n0_:=am (below_step (by exact bq HB.out) hb);have n1_:=am (hbox);have n2_:=am ((by rw [hg];exact (below_size (by exact bq HB.out)) : w.heap.size ≤ gb189));have n3_:=am ((by rw [hg];exact (below_size (by exact bq HB.out)) : w.heap.size ≤ gb189));clear HB;have HB:=n0_;have BK189:=n1_;have GW189:=n2_;have GE189:=n3_;clear n0_ n1_ n2_ n3_;clear hb hbox hg;have hcz3_0 : w2.cell? ⟨gb189,0,none⟩ = some (.int .i64 a0_0):=(blk_cell BK189.out 0).trans rfl;have hcz3_1 : w2.cell? ⟨gb189,1,none⟩ = some (.int .i64 a0_1):=(blk_cell BK189.out 1).trans rfl;have hcz3_2 : w2.cell? ⟨gb189,2,none⟩ = some (.int .i64 a0_2):=(blk_cell BK189.out 2).trans rfl;have hcz3_3 : w2.cell? ⟨gb189,3,none⟩ = some (.slice A0_3 l0_3.length c0_3):=(blk_cell BK189.out 3).trans rfl;have hfz3_0:=blk_frozen BK189.out 0;have hfz3_1:=blk_frozen BK189.out 1;have hfz3_2:=blk_frozen BK189.out 2;have hfz3_3:=blk_frozen BK189.out 3))
 go_loopg [3,4] k (fun kq v3 v4 w'=>∃ (x3_1 : Int) (x4_1 : Int),v3 = .int .i64 x3_1 ∧ v4 = .int .i64 x4_1 ∧ Aside0 (althinglaw7_size.l0 kq x3_1 x4_1 a0_0 a0_1 a0_2 l0_3 = some r) ∧ Aside0 (kq ≤ k) ∧ Aside0 (w'.heap[gb189]? = some (.cells #[.int .i64 a0_0,.int .i64 a0_1,.int .i64 a0_2,(.slice A0_3 l0_3.length c0_3)] 25 (0,0))) ∧ Aside0 (Below w.heap.size w w'))
 case atStart=>exact ⟨(wrap64 (1 + (l0_3.length : Int))),(0),(by first | rfl | (simp;done) | (simp [*];done)),(by first | rfl | (simp;done) | (simp [*];done)),H',⟨Nat.le_refl _⟩,⟨by exact kq BK189.out⟩,⟨by repeat (first | (with_reducible first | exact HB.out | apply ba | apply bn | apply bd | refine tb_ ?_ GE189.out) | exact HB.out)⟩⟩
 case round=>
  clear H'
  try clear c1
  try clear p2
  try clear hcz3_0
  try clear hcz3_1
  try clear hcz3_2
  try clear hcz3_3
  try clear hfz3_0
  try clear hfz3_1
  try clear hfz3_2
  try clear hfz3_3
  obtain ⟨x3_1,x4_1,rfl,rfl,HA,HK1,BK189,HB⟩:=hrel
  cases gk with
  | zero=>exact absurd HA.out (by simp [althinglaw7_size.l0])
  | succ k1=>
    have H:=HA.out;clear HA;simp only [althinglaw7_size.l0] at H
    by_cases c4 : x4_1 < (l0_3.length : Int)
    rotate_left
    ·rw [if_neg c4] at H;have c4b0 : decide (x4_1 < (l0_3.length : Int)) = false:=decide_eq_false c4;clear c4;obtain rfl:=Option.some.inj H;have hcz11_0 : wr.cell? ⟨gb189,0,none⟩ = some (.int .i64 a0_0):=(blk_cell BK189.out 0).trans rfl;have hcz11_1 : wr.cell? ⟨gb189,1,none⟩ = some (.int .i64 a0_1):=(blk_cell BK189.out 1).trans rfl;have hcz11_2 : wr.cell? ⟨gb189,2,none⟩ = some (.int .i64 a0_2):=(blk_cell BK189.out 2).trans rfl;have hcz11_3 : wr.cell? ⟨gb189,3,none⟩ = some (.slice A0_3 l0_3.length c0_3):=(blk_cell BK189.out 3).trans rfl;have hfz11_0:=blk_frozen BK189.out 0;have hfz11_1:=blk_frozen BK189.out 1;have hfz11_2:=blk_frozen BK189.out 2;have hfz11_3:=blk_frozen BK189.out 3
     go_wp2
     go_ret
     exact ⟨by first | rfl | (simp [errW_none,errW_some] <;> rfl) | (simp [*,errW_none,errW_some] <;> rfl),by repeat (first | (with_reducible first | exact HB.out | apply ba | apply bn | apply bd | refine tb_ ?_ GE189.out) | exact HB.out)⟩
    rw [if_pos c4] at H;have c4b0 : decide (x4_1 < (l0_3.length : Int)) = true:=decide_eq_true c4;clear c4
    by_cases c5 : x3_1 < 300
    rotate_left
    ·rw [if_neg c5] at H;have c5b0 : decide (x3_1 < 300) = false:=decide_eq_false c5;clear c5;obtain rfl:=Option.some.inj H;have hcz10_0 : wr.cell? ⟨gb189,0,none⟩ = some (.int .i64 a0_0):=(blk_cell BK189.out 0).trans rfl;have hcz10_1 : wr.cell? ⟨gb189,1,none⟩ = some (.int .i64 a0_1):=(blk_cell BK189.out 1).trans rfl;have hcz10_2 : wr.cell? ⟨gb189,2,none⟩ = some (.int .i64 a0_2):=(blk_cell BK189.out 2).trans rfl;have hcz10_3 : wr.cell? ⟨gb189,3,none⟩ = some (.slice A0_3 l0_3.length c0_3):=(blk_cell BK189.out 3).trans rfl;have hfz10_0:=blk_frozen BK189.out 0;have hfz10_1:=blk_frozen BK189.out 1;have hfz10_2:=blk_frozen BK189.out 2;have hfz10_3:=blk_frozen BK189.out 3
     go_wp2
     go_ret
     exact ⟨by first | rfl | (simp [errW_none,errW_some] <;> rfl) | (simp [*,errW_none,errW_some] <;> rfl),by repeat (first | (with_reducible first | exact HB.out | apply ba | apply bn | apply bd | refine tb_ ?_ GE189.out) | exact HB.out)⟩
    rw [if_pos c5] at H;have c5b0 : decide (x3_1 < 300) = true:=decide_eq_true c5;clear c5
    by_cases c6 : 0 ≤ x4_1
    rotate_left
    ·rw [if_neg c6] at H;exact absurd H (by simp)
    rw [if_pos c6] at H;have c6b0 : decide (0 ≤ x4_1) = true:=decide_eq_true c6;clear c6;replace H:=Option.bind_eq_some_iff.mp H;obtain ⟨t191,A70,H⟩:=H;replace H : (althinglaw7_size.l0 k1 (wrap64 (x3_1 + t191)) (wrap64 (x4_1 + 1)) a0_0 a0_1 a0_2 l0_3) = some r:=H;have A7:=am A70;clear A70;have H':=am H;clear H;have hcz8_0 : wr.cell? ⟨gb189,0,none⟩ = some (.int .i64 a0_0):=(blk_cell BK189.out 0).trans rfl;have hcz8_1 : wr.cell? ⟨gb189,1,none⟩ = some (.int .i64 a0_1):=(blk_cell BK189.out 1).trans rfl;have hcz8_2 : wr.cell? ⟨gb189,2,none⟩ = some (.int .i64 a0_2):=(blk_cell BK189.out 2).trans rfl;have hcz8_3 : wr.cell? ⟨gb189,3,none⟩ = some (.slice A0_3 l0_3.length c0_3):=(blk_cell BK189.out 3).trans rfl;have hfz8_0:=blk_frozen BK189.out 0;have hfz8_1:=blk_frozen BK189.out 1;have hfz8_2:=blk_frozen BK189.out 2;have hfz8_3:=blk_frozen BK189.out 3;have p190 : 0 ≤ (x4_1 : Int):=of_decide_eq_true (by first | (with_reducible assumption) | assumption);have q190 : x4_1 < (l0_3.length : Int):=of_decide_eq_true (by first | (with_reducible assumption) | assumption);obtain ⟨ad190,A190_3,c190_3,e190,hx190_0,hx190_1,hx190_2,hx190_3,hl190_3,hi190_3⟩:=at_T25 HR0_3.out x4_1 p190 q190;cases e190;replace hx190_0:=(HB.out.cell (World.block_lt_of_cell? w _ hx190_0)).trans hx190_0;replace hx190_1:=(HB.out.cell (World.block_lt_of_cell? w _ hx190_1)).trans hx190_1;replace hx190_2:=(HB.out.cell (World.block_lt_of_cell? w _ hx190_2)).trans hx190_2;replace hx190_3:=(HB.out.cell (World.block_lt_of_cell? w _ hx190_3)).trans hx190_3;have HR190_3:=am hi190_3;have HC190_3:=am hl190_3;clear hi190_3 hl190_3;replace p190:=eq_true p190;replace q190:=eq_true q190
    go_wp2_with (first | ((with_reducible refine gate_callee (f:=12) rfl ?_);refine gl (some 26) Try.func12 #[.agg #[.int .i64 ((rd_T25 l0_3 x4_1).f0),.int .i64 ((rd_T25 l0_3 x4_1).f1),.int .i64 ((rd_T25 l0_3 x4_1).f2),.slice A190_3 ((rd_T25 l0_3 x4_1).f3).length c190_3]] ?_;(with_reducible refine (ih k1 (by have:=HK1.out;omega) ((rd_T25 l0_3 x4_1).f0) ((rd_T25 l0_3 x4_1).f1) ((rd_T25 l0_3 x4_1).f2) _ _ ((rd_T25 l0_3 x4_1).f3) t191 _ ?side1 ?side2 A7.out).mono ?_);(case side1=>repeat (first | exact (Kd.C_below HR190_3.out HB.out) | (with_reducible refine Kd.C_alloc ?_ _) | (with_reducible refine Kd.C_drewN ?_ _) | (with_reducible refine Kd.C_drew ?_)));(case side2=>exact HC190_3.out);rintro e w9 ⟨rfl,hb⟩;refine ⟨_,rfl,?_⟩;have n0_:=am (blk_below (g:=gb189) (o:= .cells #[.int .i64 a0_0,.int .i64 a0_1,.int .i64 a0_2,.slice (some ad190) l0_3.length c0_3] 25 (0,0)) (by exact kq BK189.out) hb);have n1_:=am (below_step (by repeat (first | (with_reducible first | exact HB.out | apply ba | apply bn | apply bd | refine tb_ ?_ GE189.out) | exact HB.out)) hb);clear BK189;clear HB;have BK189:=n0_;have HB:=n1_;clear n0_ n1_;(try clear hb);(try clear hb2);(try clear hk);(try clear hi)))
    go_roundg k1
    case measure=>have:=HK1.out;omega
    case rel=>exact ⟨(wrap64 (x3_1 + t191)),(wrap64 (x4_1 + 1)),(by first | rfl | (simp;done) | (simp [*];done)),(by first | rfl | (simp;done) | (simp [*];done)),H',⟨by have:=HK1.out;omega⟩,⟨by exact kq BK189.out⟩,⟨by repeat (first | (with_reducible first | exact HB.out | apply ba | apply bn | apply bd | refine tb_ ?_ GE189.out) | exact HB.out)⟩⟩
/-! ### althingref7_in: function 28 -/
def althingref7_in.f (a0 : Int) (a1 : Int) (a2 : Int) : Option (Bool):=if a0 ≥ a1 then (some (decide (a0 ≤ a2))) else (some false)
set_option maxHeartbeats 8000000 in
set_option maxRecDepth 100000 in
theorem althingref7_in.calls (a0 : Int) (a1 : Int) (a2 : Int) (r : Bool) (w : World) (h : althingref7_in.f a0 a1 a2 = some r) :
 Calls Try.prog 28 #[.int .i64 a0,.int .i64 a1,.int .i64 a2] w fun e w'=>e = .returned (.bool r) ∧ Drawn0 w w':=by
 have H : (if a0 ≥ a1 then (some (decide (a0 ≤ a2))) else (some false)) = some r:=h;clear h
 by_cases c4 : a0 ≥ a1
 ·rw [if_pos c4] at H;have c4b0 : decide (a1 ≤ a0) = true:=decide_eq_true c4;clear c4;obtain rfl:=Option.some.inj H;go_enter Try.func28,Try.ntmps28
  go_wp2
  go_ret
  exact ⟨by first | rfl | (simp;done) | (simp [*];done),by repeat (first | exact Drawn0.refl _ | apply Drawn0.step)⟩
 rw [if_neg c4] at H;have c4b0 : decide (a1 ≤ a0) = false:=decide_eq_false c4;clear c4;obtain rfl:=Option.some.inj H;go_enter Try.func28,Try.ntmps28
 go_wp2
 go_ret
 exact ⟨by first | rfl | (simp;done) | (simp [*];done),by repeat (first | exact Drawn0.refl _ | apply Drawn0.step)⟩
end Go.Proofs.Ytilckocpgififaa.G
-- Laid by this session's own program gprint.py over the kit's print (given functions are proved by hand).
namespace Go.Proofs.Ytilckocpgififaa.G
open Go.RowKit Go.Proofs.YtilckocpgififaaW.PrintWords Go.Proofs.YtilckocpgififaaW.PrintLast Go.Proofs.YtilckocpgififaaW.PrintMore
attribute [local go_sem] max2_int min2_int max_two min_two max_three min_three max_four min_four   -- for this text's walks alone
set_option linter.unusedVariables false
set_option linter.unusedSimpArgs false
/-! ### althingref7_call: function 38 -/
mutual
def althingref7_call.j0 : Nat → Int → Bool → Int → Int → Int → List (S25) → Option (Bool)
 | 0,_,_,_,_,_,_=>none
 | k + 1,x1,x24,x193000,x193001,x193002,x193003=>if x24 = true then (some false) else (if x193000 = 1 then ((althingref7_in.f x193002 0 1073741824).bind fun t193=>(some t193)) else (if x193000 = 2 then ((althingref7_in.f x193001 0 9).bind fun t194=>(if t194 = true then ((althingref7_in.f x193002 0 1073741824).bind fun t195=>(some t195)) else (some false))) else (if x193000 = 3 then (althingref7_call.j1 k x1 x193000 (x193000 == 3) x193000 x193001 x193002 x193003) else (althingref7_call.j1 k x1 x193000 (x193000 == 4) x193000 x193001 x193002 x193003))))
def althingref7_call.j1 : Nat → Int → Int → Bool → Int → Int → Int → List (S25) → Option (Bool)
 | 0,_,_,_,_,_,_,_=>none
 | k + 1,x1,x26,x42,x193000,x193001,x193002,x193003=>if x42 = true then ((althingref7_in.f x193002 0 11).bind fun t196=>(some t196)) else (if x26 = 5 then (if x193002 = 0 then ((althingref7_in.f (x193003.length : Int) 1 4).bind fun t197=>(if t197 = true then (althingref7_call.j2 k x1 (decide (x1 ≥ 3)) x193000 x193001 x193002 x193003) else (althingref7_call.j2 k x1 true x193000 x193001 x193002 x193003))) else (althingref7_call.j2 k x1 true x193000 x193001 x193002 x193003)) else (some false))
def althingref7_call.j2 : Nat → Int → Bool → Int → Int → Int → List (S25) → Option (Bool)
 | 0,_,_,_,_,_,_=>none
 | k + 1,x1,x63,x193000,x193001,x193002,x193003=>if x63 = true then (some false) else (althingref7_call.l0 k x1 0 x193000 x193001 x193002 x193003)
def althingref7_call.l0 : Nat → Int → Int → Int → Int → Int → List (S25) → Option (Bool)
 | 0,_,_,_,_,_,_=>none
 | k + 1,x1,x5,x193000,x193001,x193002,x193003=>if x5 < (x193003.length : Int) then (if 0 ≤ x5 then ((althingref7_call.f k ((rd_T25 x193003 x5).f0) ((rd_T25 x193003 x5).f1) ((rd_T25 x193003 x5).f2) ((rd_T25 x193003 x5).f3) (wrap64 (x1 + 1))).bind fun t199=>(if t199 = true then (althingref7_call.l0 k x1 (wrap64 (x5 + 1)) x193000 x193001 x193002 x193003) else (some false))) else (none)) else (some true)
def althingref7_call.f : Nat → Int → Int → Int → List (S25) → Int → Option (Bool)
 | 0,_,_,_,_,_=>none
 | k + 1,a0_0,a0_1,a0_2,l0_3,a1=>if a0_0 = 5 then (if a0_0 = 2 then (althingref7_call.j0 k a1 false a0_0 a0_1 a0_2 l0_3) else (althingref7_call.j0 k a1 (a0_1 != 0) a0_0 a0_1 a0_2 l0_3)) else (if (l0_3.length : Int) > 0 then (althingref7_call.j0 k a1 true a0_0 a0_1 a0_2 l0_3) else (if a0_0 = 2 then (althingref7_call.j0 k a1 false a0_0 a0_1 a0_2 l0_3) else (althingref7_call.j0 k a1 (a0_1 != 0) a0_0 a0_1 a0_2 l0_3)))
end
set_option maxHeartbeats 8000000 in
set_option maxRecDepth 100000 in
theorem althingref7_call.calls (k : Nat) : ∀ (a0_0 : Int) (a0_1 : Int) (a0_2 : Int) (A0_3 : Option Addr) (c0_3 : Nat) (l0_3 : List (S25)) (a1 : Int) (r : Bool) (w : World) (hr0_3 : Kd.C k25 w A0_3 l0_3.length l0_3) (hc0_3 : l0_3.length ≤ c0_3) (h : althingref7_call.f k a0_0 a0_1 a0_2 l0_3 a1 = some r),
 Calls Try.prog 38 #[.agg #[.int .i64 a0_0,.int .i64 a0_1,.int .i64 a0_2,.slice A0_3 l0_3.length c0_3],.int .i64 a1] w fun e w'=>e = .returned (.bool r) ∧ Below w.heap.size w w':=by
 induction k using Nat.strongRecOn with
 | _ k ih=>
 intro a0_0 a0_1 a0_2 A0_3 c0_3 l0_3 a1 r w hr0_3 hc0_3 h
 cases k with
 | zero=>exact absurd h (by simp [althingref7_call.f])
 | succ k=>
 simp only [althingref7_call.f] at h;have hu25:=Try.underlying25;have HR0_3:=am hr0_3;have HC0_3:=am hc0_3;clear hr0_3 hc0_3;have HB:=am (Below.refl w.heap.size w);have H : (if a0_0 = 5 then (if a0_0 = 2 then (althingref7_call.j0 k a1 false a0_0 a0_1 a0_2 l0_3) else (althingref7_call.j0 k a1 (a0_1 != 0) a0_0 a0_1 a0_2 l0_3)) else (if (l0_3.length : Int) > 0 then (althingref7_call.j0 k a1 true a0_0 a0_1 a0_2 l0_3) else (if a0_0 = 2 then (althingref7_call.j0 k a1 false a0_0 a0_1 a0_2 l0_3) else (althingref7_call.j0 k a1 (a0_1 != 0) a0_0 a0_1 a0_2 l0_3)))) = some r:=h;clear h;have HC3:=am H;clear H;go_enter Try.func38,Try.ntmps38
 go_upto_region 1 with (first | ((with_reducible refine gate_dst (N:=2) rfl ?_);(try (refine gate_guard (by rfl) ?_;dsimp only));refine box_event ?hg (N:=2) ?hd (cs:=#[.int .i64 a0_0,.int .i64 a0_1,.int .i64 a0_2,.slice A0_3 l0_3.length c0_3]) (t:=25) ?hr ?_;(case hd=>rfl);(case hg=>rfl);(case hr=>first | (go_simp;done) | (go_simp;rfl));intro gb192 hg w4 hbox hb;have n0_:=am (below_step (by exact bq HB.out) hb);have n1_:=am (hbox);have n2_:=am ((by rw [hg];exact (below_size (by exact bq HB.out)) : w.heap.size ≤ gb192));have n3_:=am ((by rw [hg];exact (below_size (by exact bq HB.out)) : w.heap.size ≤ gb192));clear HB;have HB:=n0_;have BK192:=n1_;have GW192:=n2_;have GE192:=n3_;clear n0_ n1_ n2_ n3_;clear hb hbox hg))
 (try simp only [Act.put,List.setIfInBounds_toArray,List.set_cons_zero,List.set_cons_succ])
 go_cut [24] (fun v24 wc=>∃ (kq : Nat) (x24_2 : Bool),v24 = .bool x24_2 ∧ Aside0 (althingref7_call.j0 kq a1 x24_2 a0_0 a0_1 a0_2 l0_3 = some r) ∧ Aside0 (kq ≤ k) ∧ Aside0 (wc.heap[gb192]? = some (.cells #[.int .i64 a0_0,.int .i64 a0_1,.int .i64 a0_2,(.slice A0_3 l0_3.length c0_3)] 25 (0,0))) ∧ Aside0 (Below w.heap.size w wc))
 case first=>
  have H:=HC3.out;clear HC3
  by_cases c5 : a0_0 = 5
  ·rw [if_pos c5] at H;have c5b0 : (a0_0 == 5) = true:=beq_iff_eq.mpr c5;have c5b1 : (a0_0 != 5) = false:=bne_eq_false_iff_eq.mpr c5;clear c5
   (first | rw [c5b0] | (simp only [i64_w,i32_w];rw [c5b0]) | skip)
   by_cases c6 : a0_0 = 2
   rotate_left
   ·rw [if_neg c6] at H;have c6b0 : (a0_0 == 2) = false:=beq_eq_false_iff_ne.mpr c6;have c6b1 : (a0_0 != 2) = true:=bne_iff_ne.mpr c6;have H':=am H;clear H;have hcz8_0 : w4.cell? ⟨gb192,0,none⟩ = some (.int .i64 a0_0):=(blk_cell BK192.out 0).trans rfl;have hcz8_1 : w4.cell? ⟨gb192,1,none⟩ = some (.int .i64 a0_1):=(blk_cell BK192.out 1).trans rfl;have hcz8_2 : w4.cell? ⟨gb192,2,none⟩ = some (.int .i64 a0_2):=(blk_cell BK192.out 2).trans rfl;have hcz8_3 : w4.cell? ⟨gb192,3,none⟩ = some (.slice A0_3 l0_3.length c0_3):=(blk_cell BK192.out 3).trans rfl;have hfz8_0:=blk_frozen BK192.out 0;have hfz8_1:=blk_frozen BK192.out 1;have hfz8_2:=blk_frozen BK192.out 2;have hfz8_3:=blk_frozen BK192.out 3
    go_wp2
    go_meet
    case rel=>exact ⟨_,((a0_1 != 0)),(by first | rfl | (simp;done) | (simp [*];done)),H',⟨by first | omega | exact Nat.le_refl _⟩,⟨by exact kq BK192.out⟩,⟨by repeat (first | (with_reducible first | exact HB.out | apply ba | apply bn | apply bd | refine tb_ ?_ GE192.out) | exact HB.out)⟩⟩
   rw [if_pos c6] at H;have c6b0 : (a0_0 == 2) = true:=beq_iff_eq.mpr c6;have c6b1 : (a0_0 != 2) = false:=bne_eq_false_iff_eq.mpr c6;clear c6;have H':=am H;clear H;have hcz7_0 : w4.cell? ⟨gb192,0,none⟩ = some (.int .i64 a0_0):=(blk_cell BK192.out 0).trans rfl;have hcz7_1 : w4.cell? ⟨gb192,1,none⟩ = some (.int .i64 a0_1):=(blk_cell BK192.out 1).trans rfl;have hcz7_2 : w4.cell? ⟨gb192,2,none⟩ = some (.int .i64 a0_2):=(blk_cell BK192.out 2).trans rfl;have hcz7_3 : w4.cell? ⟨gb192,3,none⟩ = some (.slice A0_3 l0_3.length c0_3):=(blk_cell BK192.out 3).trans rfl;have hfz7_0:=blk_frozen BK192.out 0;have hfz7_1:=blk_frozen BK192.out 1;have hfz7_2:=blk_frozen BK192.out 2;have hfz7_3:=blk_frozen BK192.out 3
   go_wp2
   go_meet
   case rel=>exact ⟨_,(false),(by first | rfl | (simp;done) | (simp [*];done)),H',⟨by first | omega | exact Nat.le_refl _⟩,⟨by exact kq BK192.out⟩,⟨by repeat (first | (with_reducible first | exact HB.out | apply ba | apply bn | apply bd | refine tb_ ?_ GE192.out) | exact HB.out)⟩⟩
  rw [if_neg c5] at H;have c5b0 : (a0_0 == 5) = false:=beq_eq_false_iff_ne.mpr c5;have c5b1 : (a0_0 != 5) = true:=bne_iff_ne.mpr c5
  (first | rw [c5b0] | (simp only [i64_w,i32_w];rw [c5b0]) | skip)
  by_cases c9 : (l0_3.length : Int) > 0
  ·rw [if_pos c9] at H;have c9b0 : decide (0 < (l0_3.length : Int)) = true:=decide_eq_true c9;have c9b1 : decide (0 < l0_3.length) = true:=decide_eq_true (by omega);clear c9;have H':=am H;clear H;have hcz10_0 : w4.cell? ⟨gb192,0,none⟩ = some (.int .i64 a0_0):=(blk_cell BK192.out 0).trans rfl;have hcz10_1 : w4.cell? ⟨gb192,1,none⟩ = some (.int .i64 a0_1):=(blk_cell BK192.out 1).trans rfl;have hcz10_2 : w4.cell? ⟨gb192,2,none⟩ = some (.int .i64 a0_2):=(blk_cell BK192.out 2).trans rfl;have hcz10_3 : w4.cell? ⟨gb192,3,none⟩ = some (.slice A0_3 l0_3.length c0_3):=(blk_cell BK192.out 3).trans rfl;have hfz10_0:=blk_frozen BK192.out 0;have hfz10_1:=blk_frozen BK192.out 1;have hfz10_2:=blk_frozen BK192.out 2;have hfz10_3:=blk_frozen BK192.out 3
   go_wp2
   go_meet
   case rel=>exact ⟨_,(true),(by first | rfl | (simp;done) | (simp [*];done)),H',⟨by first | omega | exact Nat.le_refl _⟩,⟨by exact kq BK192.out⟩,⟨by repeat (first | (with_reducible first | exact HB.out | apply ba | apply bn | apply bd | refine tb_ ?_ GE192.out) | exact HB.out)⟩⟩
  rw [if_neg c9] at H;have c9b0 : decide (0 < (l0_3.length : Int)) = false:=decide_eq_false c9;have c9b1 : decide (0 < l0_3.length) = false:=decide_eq_false (by omega);clear c9
  by_cases c11 : a0_0 = 2
  rotate_left
  ·rw [if_neg c11] at H;have c11b0 : (a0_0 == 2) = false:=beq_eq_false_iff_ne.mpr c11;have c11b1 : (a0_0 != 2) = true:=bne_iff_ne.mpr c11;have H':=am H;clear H;have hcz13_0 : w4.cell? ⟨gb192,0,none⟩ = some (.int .i64 a0_0):=(blk_cell BK192.out 0).trans rfl;have hcz13_1 : w4.cell? ⟨gb192,1,none⟩ = some (.int .i64 a0_1):=(blk_cell BK192.out 1).trans rfl;have hcz13_2 : w4.cell? ⟨gb192,2,none⟩ = some (.int .i64 a0_2):=(blk_cell BK192.out 2).trans rfl;have hcz13_3 : w4.cell? ⟨gb192,3,none⟩ = some (.slice A0_3 l0_3.length c0_3):=(blk_cell BK192.out 3).trans rfl;have hfz13_0:=blk_frozen BK192.out 0;have hfz13_1:=blk_frozen BK192.out 1;have hfz13_2:=blk_frozen BK192.out 2;have hfz13_3:=blk_frozen BK192.out 3
   go_wp2
   go_meet
   case rel=>exact ⟨_,((a0_1 != 0)),(by first | rfl | (simp;done) | (simp [*];done)),H',⟨by first | omega | exact Nat.le_refl _⟩,⟨by exact kq BK192.out⟩,⟨by repeat (first | (with_reducible first | exact HB.out | apply ba | apply bn | apply bd | refine tb_ ?_ GE192.out) | exact HB.out)⟩⟩
  rw [if_pos c11] at H;have c11b0 : (a0_0 == 2) = true:=beq_iff_eq.mpr c11;have c11b1 : (a0_0 != 2) = false:=bne_eq_false_iff_eq.mpr c11;clear c11;have H':=am H;clear H;have hcz12_0 : w4.cell? ⟨gb192,0,none⟩ = some (.int .i64 a0_0):=(blk_cell BK192.out 0).trans rfl;have hcz12_1 : w4.cell? ⟨gb192,1,none⟩ = some (.int .i64 a0_1):=(blk_cell BK192.out 1).trans rfl;have hcz12_2 : w4.cell? ⟨gb192,2,none⟩ = some (.int .i64 a0_2):=(blk_cell BK192.out 2).trans rfl;have hcz12_3 : w4.cell? ⟨gb192,3,none⟩ = some (.slice A0_3 l0_3.length c0_3):=(blk_cell BK192.out 3).trans rfl;have hfz12_0:=blk_frozen BK192.out 0;have hfz12_1:=blk_frozen BK192.out 1;have hfz12_2:=blk_frozen BK192.out 2;have hfz12_3:=blk_frozen BK192.out 3
  go_wp2
  go_meet
  case rel=>exact ⟨_,(false),(by first | rfl | (simp;done) | (simp [*];done)),H',⟨by first | omega | exact Nat.le_refl _⟩,⟨by exact kq BK192.out⟩,⟨by repeat (first | (with_reducible first | exact HB.out | apply ba | apply bn | apply bd | refine tb_ ?_ GE192.out) | exact HB.out)⟩⟩
 case rest=>
  clear HC3
  try clear c1
  try clear p2
  try clear c3
  try clear c5
  try clear c5b0
  try clear c5b1
  try clear c6
  try clear c6b0
  try clear c6b1
  try clear c9
  try clear c9b0
  try clear c9b1
  try clear c11
  try clear c11b0
  try clear c11b1
  try clear hcz10_0
  try clear hcz10_1
  try clear hcz10_2
  try clear hcz10_3
  try clear hcz12_0
  try clear hcz12_1
  try clear hcz12_2
  try clear hcz12_3
  try clear hcz13_0
  try clear hcz13_1
  try clear hcz13_2
  try clear hcz13_3
  try clear hcz7_0
  try clear hcz7_1
  try clear hcz7_2
  try clear hcz7_3
  try clear hcz8_0
  try clear hcz8_1
  try clear hcz8_2
  try clear hcz8_3
  try clear hfz10_0
  try clear hfz10_1
  try clear hfz10_2
  try clear hfz10_3
  try clear hfz12_0
  try clear hfz12_1
  try clear hfz12_2
  try clear hfz12_3
  try clear hfz13_0
  try clear hfz13_1
  try clear hfz13_2
  try clear hfz13_3
  try clear hfz7_0
  try clear hfz7_1
  try clear hfz7_2
  try clear hfz7_3
  try clear hfz8_0
  try clear hfz8_1
  try clear hfz8_2
  try clear hfz8_3
  obtain ⟨kq,x24_2,rfl,HA,HJ2,BK192,HB⟩:=hcut
  cases kq with
  | zero=>exact absurd HA.out (by simp [althingref7_call.j0])
  | succ kj2=>
    have H:=HA.out;clear HA;simp only [althingref7_call.j0] at H
    by_cases c14 : x24_2 = true
    ·subst c14
     have H1 : (some false) = some r:=by rw [if_pos rfl] at H;exact H
     clear H;have H:=H1;clear H1;obtain rfl:=Option.some.inj H
     go_wp2
     go_ret
     exact ⟨by first | rfl | (simp [errW_none,errW_some] <;> rfl) | (simp [*,errW_none,errW_some] <;> rfl),by repeat (first | (with_reducible first | exact HB.out | apply ba | apply bn | apply bd | refine tb_ ?_ GE192.out) | exact HB.out)⟩
    replace c14:=Bool.eq_false_iff.mpr c14;subst c14
    have H1 : (if a0_0 = 1 then ((althingref7_in.f a0_2 0 1073741824).bind fun t193=>(some t193)) else (if a0_0 = 2 then ((althingref7_in.f a0_1 0 9).bind fun t194=>(if t194 = true then ((althingref7_in.f a0_2 0 1073741824).bind fun t195=>(some t195)) else (some false))) else (if a0_0 = 3 then (althingref7_call.j1 kj2 a1 a0_0 (a0_0 == 3) a0_0 a0_1 a0_2 l0_3) else (althingref7_call.j1 kj2 a1 a0_0 (a0_0 == 4) a0_0 a0_1 a0_2 l0_3)))) = some r:=by rw [if_neg (show ¬ (false = true) by decide)] at H;exact H
    clear H;have H:=H1;clear H1
    by_cases c15 : a0_0 = 1
    ·rw [if_pos c15] at H;have c15b0 : (a0_0 == 1) = true:=beq_iff_eq.mpr c15;have c15b1 : (a0_0 != 1) = false:=bne_eq_false_iff_eq.mpr c15;clear c15;replace H:=Option.bind_eq_some_iff.mp H;obtain ⟨t193,A160,H⟩:=H;replace H : (some t193) = some r:=H;have A16:=am A160;clear A160;obtain rfl:=Option.some.inj H;have hcz17_0 : wc.cell? ⟨gb192,0,none⟩ = some (.int .i64 a0_0):=(blk_cell BK192.out 0).trans rfl;have hcz17_1 : wc.cell? ⟨gb192,1,none⟩ = some (.int .i64 a0_1):=(blk_cell BK192.out 1).trans rfl;have hcz17_2 : wc.cell? ⟨gb192,2,none⟩ = some (.int .i64 a0_2):=(blk_cell BK192.out 2).trans rfl;have hcz17_3 : wc.cell? ⟨gb192,3,none⟩ = some (.slice A0_3 l0_3.length c0_3):=(blk_cell BK192.out 3).trans rfl;have hfz17_0:=blk_frozen BK192.out 0;have hfz17_1:=blk_frozen BK192.out 1;have hfz17_2:=blk_frozen BK192.out 2;have hfz17_3:=blk_frozen BK192.out 3
     go_wp2_with (first | ((with_reducible refine gate_callee (f:=28) rfl ?_);refine gl (some 31) Try.func28 #[.int .i64 a0_2,.int .i64 0,.int .i64 1073741824] ?_;(with_reducible refine (althingref7_in.calls a0_2 0 1073741824 t193 _ A16.out).mono ?_);rintro e w' ⟨rfl,⟨nd,rfl⟩⟩;refine ⟨_,rfl,?_⟩))
     go_ret
     exact ⟨by first | rfl | (simp [errW_none,errW_some] <;> rfl) | (simp [*,errW_none,errW_some] <;> rfl),by repeat (first | (with_reducible first | exact HB.out | apply ba | apply bn | apply bd | refine tb_ ?_ GE192.out) | exact HB.out)⟩
    rw [if_neg c15] at H;have c15b0 : (a0_0 == 1) = false:=beq_eq_false_iff_ne.mpr c15;have c15b1 : (a0_0 != 1) = true:=bne_iff_ne.mpr c15
    by_cases c18 : a0_0 = 2
    ·rw [if_pos c18] at H;have c18b0 : (a0_0 == 2) = true:=beq_iff_eq.mpr c18;have c18b1 : (a0_0 != 2) = false:=bne_eq_false_iff_eq.mpr c18;clear c18;replace H:=Option.bind_eq_some_iff.mp H;obtain ⟨t194,A190,H⟩:=H;replace H : (if t194 = true then ((althingref7_in.f a0_2 0 1073741824).bind fun t195=>(some t195)) else (some false)) = some r:=H;have A19:=am A190;clear A190
     by_cases c20 : t194 = true
     rotate_left
     ·replace c20:=Bool.eq_false_iff.mpr c20;subst c20
      have H1 : (some false) = some r:=by rw [if_neg (show ¬ (false = true) by decide)] at H;exact H
      clear H;have H:=H1;clear H1;obtain rfl:=Option.some.inj H;have hcz23_0 : wc.cell? ⟨gb192,0,none⟩ = some (.int .i64 a0_0):=(blk_cell BK192.out 0).trans rfl;have hcz23_1 : wc.cell? ⟨gb192,1,none⟩ = some (.int .i64 a0_1):=(blk_cell BK192.out 1).trans rfl;have hcz23_2 : wc.cell? ⟨gb192,2,none⟩ = some (.int .i64 a0_2):=(blk_cell BK192.out 2).trans rfl;have hcz23_3 : wc.cell? ⟨gb192,3,none⟩ = some (.slice A0_3 l0_3.length c0_3):=(blk_cell BK192.out 3).trans rfl;have hfz23_0:=blk_frozen BK192.out 0;have hfz23_1:=blk_frozen BK192.out 1;have hfz23_2:=blk_frozen BK192.out 2;have hfz23_3:=blk_frozen BK192.out 3
      go_wp2_with (first | ((with_reducible refine gate_callee (f:=28) rfl ?_);refine gl (some 36) Try.func28 #[.int .i64 a0_1,.int .i64 0,.int .i64 9] ?_;(with_reducible refine (althingref7_in.calls a0_1 0 9 false _ A19.out).mono ?_);rintro e w' ⟨rfl,⟨nd,rfl⟩⟩;refine ⟨_,rfl,?_⟩))
      go_ret
      exact ⟨by first | rfl | (simp [errW_none,errW_some] <;> rfl) | (simp [*,errW_none,errW_some] <;> rfl),by repeat (first | (with_reducible first | exact HB.out | apply ba | apply bn | apply bd | refine tb_ ?_ GE192.out) | exact HB.out)⟩
     subst c20
     have H1 : ((althingref7_in.f a0_2 0 1073741824).bind fun t195=>(some t195)) = some r:=by rw [if_pos rfl] at H;exact H
     clear H;have H:=H1;clear H1;replace H:=Option.bind_eq_some_iff.mp H;obtain ⟨t195,A210,H⟩:=H;replace H : (some t195) = some r:=H;have A21:=am A210;clear A210;obtain rfl:=Option.some.inj H;have hcz22_0 : wc.cell? ⟨gb192,0,none⟩ = some (.int .i64 a0_0):=(blk_cell BK192.out 0).trans rfl;have hcz22_1 : wc.cell? ⟨gb192,1,none⟩ = some (.int .i64 a0_1):=(blk_cell BK192.out 1).trans rfl;have hcz22_2 : wc.cell? ⟨gb192,2,none⟩ = some (.int .i64 a0_2):=(blk_cell BK192.out 2).trans rfl;have hcz22_3 : wc.cell? ⟨gb192,3,none⟩ = some (.slice A0_3 l0_3.length c0_3):=(blk_cell BK192.out 3).trans rfl;have hfz22_0:=blk_frozen BK192.out 0;have hfz22_1:=blk_frozen BK192.out 1;have hfz22_2:=blk_frozen BK192.out 2;have hfz22_3:=blk_frozen BK192.out 3
     go_wp2_with (first | ((with_reducible refine gate_callee (f:=28) rfl ?_);refine gl (some 36) Try.func28 #[.int .i64 a0_1,.int .i64 0,.int .i64 9] ?_;(with_reducible refine (althingref7_in.calls a0_1 0 9 true _ A19.out).mono ?_);rintro e w' ⟨rfl,⟨nd,rfl⟩⟩;refine ⟨_,rfl,?_⟩) | (go_at_call 28;(with_reducible refine (althingref7_in.calls a0_2 0 1073741824 t195 _ A21.out).mono ?_);rintro e w' ⟨rfl,⟨nd,rfl⟩⟩))
     go_ret
     exact ⟨by first | rfl | (simp [errW_none,errW_some] <;> rfl) | (simp [*,errW_none,errW_some] <;> rfl),by repeat (first | (with_reducible first | exact HB.out | apply ba | apply bn | apply bd | refine tb_ ?_ GE192.out) | exact HB.out)⟩
    rw [if_neg c18] at H;have c18b0 : (a0_0 == 2) = false:=beq_eq_false_iff_ne.mpr c18;have c18b1 : (a0_0 != 2) = true:=bne_iff_ne.mpr c18;have HC24:=am H;clear H;have hcz25_0 : wc.cell? ⟨gb192,0,none⟩ = some (.int .i64 a0_0):=(blk_cell BK192.out 0).trans rfl;have hcz25_1 : wc.cell? ⟨gb192,1,none⟩ = some (.int .i64 a0_1):=(blk_cell BK192.out 1).trans rfl;have hcz25_2 : wc.cell? ⟨gb192,2,none⟩ = some (.int .i64 a0_2):=(blk_cell BK192.out 2).trans rfl;have hcz25_3 : wc.cell? ⟨gb192,3,none⟩ = some (.slice A0_3 l0_3.length c0_3):=(blk_cell BK192.out 3).trans rfl;have hfz25_0:=blk_frozen BK192.out 0;have hfz25_1:=blk_frozen BK192.out 1;have hfz25_2:=blk_frozen BK192.out 2;have hfz25_3:=blk_frozen BK192.out 3
    go_upto_if 42 with (fail)
    go_cut [42] (fun v42 wc=>∃ (kq : Nat) (x42_23 : Bool),v42 = .bool x42_23 ∧ Aside0 (althingref7_call.j1 kq a1 a0_0 x42_23 a0_0 a0_1 a0_2 l0_3 = some r) ∧ Aside0 (kq ≤ kj2) ∧ Aside0 (wc.heap[gb192]? = some (.cells #[.int .i64 a0_0,.int .i64 a0_1,.int .i64 a0_2,(.slice A0_3 l0_3.length c0_3)] 25 (0,0))) ∧ Aside0 (Below w.heap.size w wc))
    case first=>
     have H:=HC24.out;clear HC24
     by_cases c26 : a0_0 = 3
     rotate_left
     ·rw [if_neg c26] at H;have c26b0 : (a0_0 == 3) = false:=beq_eq_false_iff_ne.mpr c26;have c26b1 : (a0_0 != 3) = true:=bne_iff_ne.mpr c26
      (first | rw [c26b0] | (simp only [i64_w,i32_w];rw [c26b0]) | skip)
      have H':=am H;clear H
      go_wp2
      go_meet
      case rel=>exact ⟨_,((a0_0 == 4)),(by first | rfl | (simp;done) | (simp [*];done)),H',⟨by have:=HJ2.out;first | omega | exact Nat.le_refl _⟩,⟨by exact kq BK192.out⟩,⟨by repeat (first | (with_reducible first | exact HB.out | apply ba | apply bn | apply bd | refine tb_ ?_ GE192.out) | exact HB.out)⟩⟩
     rw [if_pos c26] at H;have c26b0 : (a0_0 == 3) = true:=beq_iff_eq.mpr c26;have c26b1 : (a0_0 != 3) = false:=bne_eq_false_iff_eq.mpr c26;clear c26
     (first | rw [c26b0] | (simp only [i64_w,i32_w];rw [c26b0]) | skip)
     have H':=am H;clear H
     go_wp2
     go_meet
     case rel=>exact ⟨_,((a0_0 == 3)),(by first | rfl | (simp;done) | (simp [*];done)),H',⟨by have:=HJ2.out;first | omega | exact Nat.le_refl _⟩,⟨by exact kq BK192.out⟩,⟨by repeat (first | (with_reducible first | exact HB.out | apply ba | apply bn | apply bd | refine tb_ ?_ GE192.out) | exact HB.out)⟩⟩
    case rest=>
     clear HC24
     try clear c1
     try clear c2
     try clear p2
     try clear c3
     try clear c5
     try clear c5b0
     try clear c5b1
     try clear c6
     try clear c6b0
     try clear c6b1
     try clear c9
     try clear c9b0
     try clear c9b1
     try clear c11
     try clear c11b0
     try clear c11b1
     try clear c14
     try clear c15
     try clear c15b0
     try clear c15b1
     try clear c18
     try clear c18b0
     try clear c18b1
     try clear c20
     try clear c26
     try clear c26b0
     try clear c26b1
     try clear hcz10_0
     try clear hcz10_1
     try clear hcz10_2
     try clear hcz10_3
     try clear hcz12_0
     try clear hcz12_1
     try clear hcz12_2
     try clear hcz12_3
     try clear hcz13_0
     try clear hcz13_1
     try clear hcz13_2
     try clear hcz13_3
     try clear hcz17_0
     try clear hcz17_1
     try clear hcz17_2
     try clear hcz17_3
     try clear hcz22_0
     try clear hcz22_1
     try clear hcz22_2
     try clear hcz22_3
     try clear hcz23_0
     try clear hcz23_1
     try clear hcz23_2
     try clear hcz23_3
     try clear hcz25_0
     try clear hcz25_1
     try clear hcz25_2
     try clear hcz25_3
     try clear hcz7_0
     try clear hcz7_1
     try clear hcz7_2
     try clear hcz7_3
     try clear hcz8_0
     try clear hcz8_1
     try clear hcz8_2
     try clear hcz8_3
     try clear hfz10_0
     try clear hfz10_1
     try clear hfz10_2
     try clear hfz10_3
     try clear hfz12_0
     try clear hfz12_1
     try clear hfz12_2
     try clear hfz12_3
     try clear hfz13_0
     try clear hfz13_1
     try clear hfz13_2
     try clear hfz13_3
     try clear hfz17_0
     try clear hfz17_1
     try clear hfz17_2
     try clear hfz17_3
     try clear hfz22_0
     try clear hfz22_1
     try clear hfz22_2
     try clear hfz22_3
     try clear hfz23_0
     try clear hfz23_1
     try clear hfz23_2
     try clear hfz23_3
     try clear hfz25_0
     try clear hfz25_1
     try clear hfz25_2
     try clear hfz25_3
     try clear hfz7_0
     try clear hfz7_1
     try clear hfz7_2
     try clear hfz7_3
     try clear hfz8_0
     try clear hfz8_1
     try clear hfz8_2
     try clear hfz8_3
     try clear p2
     obtain ⟨kq,x42_23,rfl,HA,HJ23,BK192,HB⟩:=hcut
     cases kq with
     | zero=>exact absurd HA.out (by simp [althingref7_call.j1])
     | succ kj23=>
       have H:=HA.out;clear HA;simp only [althingref7_call.j1] at H
       by_cases c27 : x42_23 = true
       ·subst c27
        have H1 : ((althingref7_in.f a0_2 0 11).bind fun t196=>(some t196)) = some r:=by rw [if_pos rfl] at H;exact H
        clear H;have H:=H1;clear H1;replace H:=Option.bind_eq_some_iff.mp H;obtain ⟨t196,A280,H⟩:=H;replace H : (some t196) = some r:=H;have A28:=am A280;clear A280;obtain rfl:=Option.some.inj H;have hcz29_0 : wc.cell? ⟨gb192,0,none⟩ = some (.int .i64 a0_0):=(blk_cell BK192.out 0).trans rfl;have hcz29_1 : wc.cell? ⟨gb192,1,none⟩ = some (.int .i64 a0_1):=(blk_cell BK192.out 1).trans rfl;have hcz29_2 : wc.cell? ⟨gb192,2,none⟩ = some (.int .i64 a0_2):=(blk_cell BK192.out 2).trans rfl;have hcz29_3 : wc.cell? ⟨gb192,3,none⟩ = some (.slice A0_3 l0_3.length c0_3):=(blk_cell BK192.out 3).trans rfl;have hfz29_0:=blk_frozen BK192.out 0;have hfz29_1:=blk_frozen BK192.out 1;have hfz29_2:=blk_frozen BK192.out 2;have hfz29_3:=blk_frozen BK192.out 3
        go_wp2_with (first | ((with_reducible refine gate_callee (f:=28) rfl ?_);refine gl (some 47) Try.func28 #[.int .i64 a0_2,.int .i64 0,.int .i64 11] ?_;(with_reducible refine (althingref7_in.calls a0_2 0 11 t196 _ A28.out).mono ?_);rintro e w' ⟨rfl,⟨nd,rfl⟩⟩;refine ⟨_,rfl,?_⟩))
        go_ret
        exact ⟨by first | rfl | (simp [errW_none,errW_some] <;> rfl) | (simp [*,errW_none,errW_some] <;> rfl),by repeat (first | (with_reducible first | exact HB.out | apply ba | apply bn | apply bd | refine tb_ ?_ GE192.out) | exact HB.out)⟩
       replace c27:=Bool.eq_false_iff.mpr c27;subst c27
       have H1 : (if a0_0 = 5 then (if a0_2 = 0 then ((althingref7_in.f (l0_3.length : Int) 1 4).bind fun t197=>(if t197 = true then (althingref7_call.j2 kj23 a1 (decide (a1 ≥ 3)) a0_0 a0_1 a0_2 l0_3) else (althingref7_call.j2 kj23 a1 true a0_0 a0_1 a0_2 l0_3))) else (althingref7_call.j2 kj23 a1 true a0_0 a0_1 a0_2 l0_3)) else (some false)) = some r:=by rw [if_neg (show ¬ (false = true) by decide)] at H;exact H
       clear H;have H:=H1;clear H1
       by_cases c30 : a0_0 = 5
       rotate_left
       ·rw [if_neg c30] at H;have c30b0 : (a0_0 == 5) = false:=beq_eq_false_iff_ne.mpr c30;have c30b1 : (a0_0 != 5) = true:=bne_iff_ne.mpr c30;obtain rfl:=Option.some.inj H
        go_wp2
        go_ret
        exact ⟨by first | rfl | (simp [errW_none,errW_some] <;> rfl) | (simp [*,errW_none,errW_some] <;> rfl),by repeat (first | (with_reducible first | exact HB.out | apply ba | apply bn | apply bd | refine tb_ ?_ GE192.out) | exact HB.out)⟩
       rw [if_pos c30] at H;have c30b0 : (a0_0 == 5) = true:=beq_iff_eq.mpr c30;have c30b1 : (a0_0 != 5) = false:=bne_eq_false_iff_eq.mpr c30;clear c30;have HC31:=am H;clear H
       go_upto_region 12 with (fail)
       go_cut [63] (fun v63 wc=>∃ (kq : Nat) (x63_30 : Bool),v63 = .bool x63_30 ∧ Aside0 (althingref7_call.j2 kq a1 x63_30 a0_0 a0_1 a0_2 l0_3 = some r) ∧ Aside0 (kq ≤ kj23) ∧ Aside0 (wc.heap[gb192]? = some (.cells #[.int .i64 a0_0,.int .i64 a0_1,.int .i64 a0_2,(.slice A0_3 l0_3.length c0_3)] 25 (0,0))) ∧ Aside0 (Below w.heap.size w wc))
       case first=>
        have H:=HC31.out;clear HC31
        by_cases c32 : a0_2 = 0
        rotate_left
        ·rw [if_neg c32] at H;have c32b0 : (a0_2 == 0) = false:=beq_eq_false_iff_ne.mpr c32;have c32b1 : (a0_2 != 0) = true:=bne_iff_ne.mpr c32
         (first | rw [c32b0] | (simp only [i64_w,i32_w];rw [c32b0]) | skip)
         have H':=am H;clear H;have hcz37_0 : wc.cell? ⟨gb192,0,none⟩ = some (.int .i64 a0_0):=(blk_cell BK192.out 0).trans rfl;have hcz37_1 : wc.cell? ⟨gb192,1,none⟩ = some (.int .i64 a0_1):=(blk_cell BK192.out 1).trans rfl;have hcz37_2 : wc.cell? ⟨gb192,2,none⟩ = some (.int .i64 a0_2):=(blk_cell BK192.out 2).trans rfl;have hcz37_3 : wc.cell? ⟨gb192,3,none⟩ = some (.slice A0_3 l0_3.length c0_3):=(blk_cell BK192.out 3).trans rfl;have hfz37_0:=blk_frozen BK192.out 0;have hfz37_1:=blk_frozen BK192.out 1;have hfz37_2:=blk_frozen BK192.out 2;have hfz37_3:=blk_frozen BK192.out 3
         go_wp2
         go_meet
         case rel=>exact ⟨_,(true),(by first | rfl | (simp;done) | (simp [*];done)),H',⟨by have:=HJ2.out;have:=HJ23.out;first | omega | exact Nat.le_refl _⟩,⟨by exact kq BK192.out⟩,⟨by repeat (first | (with_reducible first | exact HB.out | apply ba | apply bn | apply bd | refine tb_ ?_ GE192.out) | exact HB.out)⟩⟩
        rw [if_pos c32] at H;have c32b0 : (a0_2 == 0) = true:=beq_iff_eq.mpr c32;have c32b1 : (a0_2 != 0) = false:=bne_eq_false_iff_eq.mpr c32;clear c32
        (first | rw [c32b0] | (simp only [i64_w,i32_w];rw [c32b0]) | skip)
        replace H:=Option.bind_eq_some_iff.mp H;obtain ⟨t197,A330,H⟩:=H;replace H : (if t197 = true then (althingref7_call.j2 kj23 a1 (decide (a1 ≥ 3)) a0_0 a0_1 a0_2 l0_3) else (althingref7_call.j2 kj23 a1 true a0_0 a0_1 a0_2 l0_3)) = some r:=H;have A33:=am A330;clear A330
        by_cases c34 : t197 = true
        ·subst c34
         have H1 : (althingref7_call.j2 kj23 a1 (decide (a1 ≥ 3)) a0_0 a0_1 a0_2 l0_3) = some r:=by rw [if_pos rfl] at H;exact H
         clear H;have H:=H1;clear H1;have H':=am H;clear H;have hcz35_0 : wc.cell? ⟨gb192,0,none⟩ = some (.int .i64 a0_0):=(blk_cell BK192.out 0).trans rfl;have hcz35_1 : wc.cell? ⟨gb192,1,none⟩ = some (.int .i64 a0_1):=(blk_cell BK192.out 1).trans rfl;have hcz35_2 : wc.cell? ⟨gb192,2,none⟩ = some (.int .i64 a0_2):=(blk_cell BK192.out 2).trans rfl;have hcz35_3 : wc.cell? ⟨gb192,3,none⟩ = some (.slice A0_3 l0_3.length c0_3):=(blk_cell BK192.out 3).trans rfl;have hfz35_0:=blk_frozen BK192.out 0;have hfz35_1:=blk_frozen BK192.out 1;have hfz35_2:=blk_frozen BK192.out 2;have hfz35_3:=blk_frozen BK192.out 3
         go_wp2_with (first | (go_at_call 28;(with_reducible refine (althingref7_in.calls (l0_3.length : Int) 1 4 true _ A33.out).mono ?_);rintro e w' ⟨rfl,⟨nd,rfl⟩⟩))
         go_meet
         case rel=>exact ⟨_,(decide (a1 ≥ 3)),(by first | rfl | (simp;done) | (simp [*];done)),H',⟨by have:=HJ2.out;have:=HJ23.out;first | omega | exact Nat.le_refl _⟩,⟨by exact kq BK192.out⟩,⟨by repeat (first | (with_reducible first | exact HB.out | apply ba | apply bn | apply bd | refine tb_ ?_ GE192.out) | exact HB.out)⟩⟩
        replace c34:=Bool.eq_false_iff.mpr c34;subst c34
        have H1 : (althingref7_call.j2 kj23 a1 true a0_0 a0_1 a0_2 l0_3) = some r:=by rw [if_neg (show ¬ (false = true) by decide)] at H;exact H
        clear H;have H:=H1;clear H1;have H':=am H;clear H;have hcz36_0 : wc.cell? ⟨gb192,0,none⟩ = some (.int .i64 a0_0):=(blk_cell BK192.out 0).trans rfl;have hcz36_1 : wc.cell? ⟨gb192,1,none⟩ = some (.int .i64 a0_1):=(blk_cell BK192.out 1).trans rfl;have hcz36_2 : wc.cell? ⟨gb192,2,none⟩ = some (.int .i64 a0_2):=(blk_cell BK192.out 2).trans rfl;have hcz36_3 : wc.cell? ⟨gb192,3,none⟩ = some (.slice A0_3 l0_3.length c0_3):=(blk_cell BK192.out 3).trans rfl;have hfz36_0:=blk_frozen BK192.out 0;have hfz36_1:=blk_frozen BK192.out 1;have hfz36_2:=blk_frozen BK192.out 2;have hfz36_3:=blk_frozen BK192.out 3
        go_wp2_with (first | (go_at_call 28;(with_reducible refine (althingref7_in.calls (l0_3.length : Int) 1 4 false _ A33.out).mono ?_);rintro e w' ⟨rfl,⟨nd,rfl⟩⟩))
        go_meet
        case rel=>exact ⟨_,(true),(by first | rfl | (simp;done) | (simp [*];done)),H',⟨by have:=HJ2.out;have:=HJ23.out;first | omega | exact Nat.le_refl _⟩,⟨by exact kq BK192.out⟩,⟨by repeat (first | (with_reducible first | exact HB.out | apply ba | apply bn | apply bd | refine tb_ ?_ GE192.out) | exact HB.out)⟩⟩
       case rest=>
        clear HC31
        try clear c1
        try clear c2
        try clear p2
        try clear c3
        try clear c5
        try clear c5b0
        try clear c5b1
        try clear c6
        try clear c6b0
        try clear c6b1
        try clear c9
        try clear c9b0
        try clear c9b1
        try clear c11
        try clear c11b0
        try clear c11b1
        try clear c14
        try clear c15
        try clear c15b0
        try clear c15b1
        try clear c18
        try clear c18b0
        try clear c18b1
        try clear c20
        try clear c26
        try clear c26b0
        try clear c26b1
        try clear c27
        try clear c28
        try clear c30
        try clear c30b0
        try clear c30b1
        try clear c32
        try clear c32b0
        try clear c32b1
        try clear c34
        try clear hcz10_0
        try clear hcz10_1
        try clear hcz10_2
        try clear hcz10_3
        try clear hcz12_0
        try clear hcz12_1
        try clear hcz12_2
        try clear hcz12_3
        try clear hcz13_0
        try clear hcz13_1
        try clear hcz13_2
        try clear hcz13_3
        try clear hcz17_0
        try clear hcz17_1
        try clear hcz17_2
        try clear hcz17_3
        try clear hcz22_0
        try clear hcz22_1
        try clear hcz22_2
        try clear hcz22_3
        try clear hcz23_0
        try clear hcz23_1
        try clear hcz23_2
        try clear hcz23_3
        try clear hcz25_0
        try clear hcz25_1
        try clear hcz25_2
        try clear hcz25_3
        try clear hcz29_0
        try clear hcz29_1
        try clear hcz29_2
        try clear hcz29_3
        try clear hcz35_0
        try clear hcz35_1
        try clear hcz35_2
        try clear hcz35_3
        try clear hcz36_0
        try clear hcz36_1
        try clear hcz36_2
        try clear hcz36_3
        try clear hcz37_0
        try clear hcz37_1
        try clear hcz37_2
        try clear hcz37_3
        try clear hcz7_0
        try clear hcz7_1
        try clear hcz7_2
        try clear hcz7_3
        try clear hcz8_0
        try clear hcz8_1
        try clear hcz8_2
        try clear hcz8_3
        try clear hfz10_0
        try clear hfz10_1
        try clear hfz10_2
        try clear hfz10_3
        try clear hfz12_0
        try clear hfz12_1
        try clear hfz12_2
        try clear hfz12_3
        try clear hfz13_0
        try clear hfz13_1
        try clear hfz13_2
        try clear hfz13_3
        try clear hfz17_0
        try clear hfz17_1
        try clear hfz17_2
        try clear hfz17_3
        try clear hfz22_0
        try clear hfz22_1
        try clear hfz22_2
        try clear hfz22_3
        try clear hfz23_0
        try clear hfz23_1
        try clear hfz23_2
        try clear hfz23_3
        try clear hfz25_0
        try clear hfz25_1
        try clear hfz25_2
        try clear hfz25_3
        try clear hfz29_0
        try clear hfz29_1
        try clear hfz29_2
        try clear hfz29_3
        try clear hfz35_0
        try clear hfz35_1
        try clear hfz35_2
        try clear hfz35_3
        try clear hfz36_0
        try clear hfz36_1
        try clear hfz36_2
        try clear hfz36_3
        try clear hfz37_0
        try clear hfz37_1
        try clear hfz37_2
        try clear hfz37_3
        try clear hfz7_0
        try clear hfz7_1
        try clear hfz7_2
        try clear hfz7_3
        try clear hfz8_0
        try clear hfz8_1
        try clear hfz8_2
        try clear hfz8_3
        try clear p2
        obtain ⟨kq,x63_30,rfl,HA,HJ30,BK192,HB⟩:=hcut
        cases kq with
        | zero=>exact absurd HA.out (by simp [althingref7_call.j2])
        | succ kj30=>
          have H:=HA.out;clear HA;simp only [althingref7_call.j2] at H
          by_cases c38 : x63_30 = true
          ·subst c38
           have H1 : (some false) = some r:=by rw [if_pos rfl] at H;exact H
           clear H;have H:=H1;clear H1;obtain rfl:=Option.some.inj H
           go_wp2
           go_ret
           exact ⟨by first | rfl | (simp [errW_none,errW_some] <;> rfl) | (simp [*,errW_none,errW_some] <;> rfl),by repeat (first | (with_reducible first | exact HB.out | apply ba | apply bn | apply bd | refine tb_ ?_ GE192.out) | exact HB.out)⟩
          replace c38:=Bool.eq_false_iff.mpr c38;subst c38
          have H1 : (althingref7_call.l0 kj30 a1 0 a0_0 a0_1 a0_2 l0_3) = some r:=by rw [if_neg (show ¬ (false = true) by decide)] at H;exact H
          clear H;have H:=H1;clear H1;have H':=am H;clear H
          go_wp2
          go_loopg [5] kj30 (fun kq v5 w'=>∃ (x5_4 : Int),v5 = .int .i64 x5_4 ∧ Aside0 (althingref7_call.l0 kq a1 x5_4 a0_0 a0_1 a0_2 l0_3 = some r) ∧ Aside0 (kq ≤ kj30) ∧ Aside0 (w'.heap[gb192]? = some (.cells #[.int .i64 a0_0,.int .i64 a0_1,.int .i64 a0_2,(.slice A0_3 l0_3.length c0_3)] 25 (0,0))) ∧ Aside0 (Below w.heap.size w w'))
          case atStart=>exact ⟨(0),(by first | rfl | (simp;done) | (simp [*];done)),H',⟨Nat.le_refl _⟩,⟨by exact kq BK192.out⟩,⟨by repeat (first | (with_reducible first | exact HB.out | apply ba | apply bn | apply bd | refine tb_ ?_ GE192.out) | exact HB.out)⟩⟩
          case round=>
           clear H'
           try clear c1
           try clear c2
           try clear p2
           try clear c3
           try clear c5
           try clear c5b0
           try clear c5b1
           try clear c6
           try clear c6b0
           try clear c6b1
           try clear c9
           try clear c9b0
           try clear c9b1
           try clear c11
           try clear c11b0
           try clear c11b1
           try clear c14
           try clear c15
           try clear c15b0
           try clear c15b1
           try clear c18
           try clear c18b0
           try clear c18b1
           try clear c20
           try clear c26
           try clear c26b0
           try clear c26b1
           try clear c27
           try clear c28
           try clear c30
           try clear c30b0
           try clear c30b1
           try clear c32
           try clear c32b0
           try clear c32b1
           try clear c34
           try clear c38
           try clear hcz10_0
           try clear hcz10_1
           try clear hcz10_2
           try clear hcz10_3
           try clear hcz12_0
           try clear hcz12_1
           try clear hcz12_2
           try clear hcz12_3
           try clear hcz13_0
           try clear hcz13_1
           try clear hcz13_2
           try clear hcz13_3
           try clear hcz17_0
           try clear hcz17_1
           try clear hcz17_2
           try clear hcz17_3
           try clear hcz22_0
           try clear hcz22_1
           try clear hcz22_2
           try clear hcz22_3
           try clear hcz23_0
           try clear hcz23_1
           try clear hcz23_2
           try clear hcz23_3
           try clear hcz25_0
           try clear hcz25_1
           try clear hcz25_2
           try clear hcz25_3
           try clear hcz29_0
           try clear hcz29_1
           try clear hcz29_2
           try clear hcz29_3
           try clear hcz35_0
           try clear hcz35_1
           try clear hcz35_2
           try clear hcz35_3
           try clear hcz36_0
           try clear hcz36_1
           try clear hcz36_2
           try clear hcz36_3
           try clear hcz37_0
           try clear hcz37_1
           try clear hcz37_2
           try clear hcz37_3
           try clear hcz7_0
           try clear hcz7_1
           try clear hcz7_2
           try clear hcz7_3
           try clear hcz8_0
           try clear hcz8_1
           try clear hcz8_2
           try clear hcz8_3
           try clear hfz10_0
           try clear hfz10_1
           try clear hfz10_2
           try clear hfz10_3
           try clear hfz12_0
           try clear hfz12_1
           try clear hfz12_2
           try clear hfz12_3
           try clear hfz13_0
           try clear hfz13_1
           try clear hfz13_2
           try clear hfz13_3
           try clear hfz17_0
           try clear hfz17_1
           try clear hfz17_2
           try clear hfz17_3
           try clear hfz22_0
           try clear hfz22_1
           try clear hfz22_2
           try clear hfz22_3
           try clear hfz23_0
           try clear hfz23_1
           try clear hfz23_2
           try clear hfz23_3
           try clear hfz25_0
           try clear hfz25_1
           try clear hfz25_2
           try clear hfz25_3
           try clear hfz29_0
           try clear hfz29_1
           try clear hfz29_2
           try clear hfz29_3
           try clear hfz35_0
           try clear hfz35_1
           try clear hfz35_2
           try clear hfz35_3
           try clear hfz36_0
           try clear hfz36_1
           try clear hfz36_2
           try clear hfz36_3
           try clear hfz37_0
           try clear hfz37_1
           try clear hfz37_2
           try clear hfz37_3
           try clear hfz7_0
           try clear hfz7_1
           try clear hfz7_2
           try clear hfz7_3
           try clear hfz8_0
           try clear hfz8_1
           try clear hfz8_2
           try clear hfz8_3
           try clear p2
           obtain ⟨x5_4,rfl,HA,HK4,BK192,HB⟩:=hrel
           cases gk with
           | zero=>exact absurd HA.out (by simp [althingref7_call.l0])
           | succ k4=>
             have H:=HA.out;clear HA;simp only [althingref7_call.l0] at H
             by_cases c39 : x5_4 < (l0_3.length : Int)
             rotate_left
             ·rw [if_neg c39] at H;have c39b0 : decide (x5_4 < (l0_3.length : Int)) = false:=decide_eq_false c39;clear c39;obtain rfl:=Option.some.inj H;have hcz47_0 : wr.cell? ⟨gb192,0,none⟩ = some (.int .i64 a0_0):=(blk_cell BK192.out 0).trans rfl;have hcz47_1 : wr.cell? ⟨gb192,1,none⟩ = some (.int .i64 a0_1):=(blk_cell BK192.out 1).trans rfl;have hcz47_2 : wr.cell? ⟨gb192,2,none⟩ = some (.int .i64 a0_2):=(blk_cell BK192.out 2).trans rfl;have hcz47_3 : wr.cell? ⟨gb192,3,none⟩ = some (.slice A0_3 l0_3.length c0_3):=(blk_cell BK192.out 3).trans rfl;have hfz47_0:=blk_frozen BK192.out 0;have hfz47_1:=blk_frozen BK192.out 1;have hfz47_2:=blk_frozen BK192.out 2;have hfz47_3:=blk_frozen BK192.out 3
              go_wp2
              go_ret
              exact ⟨by first | rfl | (simp [errW_none,errW_some] <;> rfl) | (simp [*,errW_none,errW_some] <;> rfl),by repeat (first | (with_reducible first | exact HB.out | apply ba | apply bn | apply bd | refine tb_ ?_ GE192.out) | exact HB.out)⟩
             rw [if_pos c39] at H;have c39b0 : decide (x5_4 < (l0_3.length : Int)) = true:=decide_eq_true c39;clear c39
             by_cases c40 : 0 ≤ x5_4
             rotate_left
             ·rw [if_neg c40] at H;exact absurd H (by simp)
             rw [if_pos c40] at H;have c40b0 : decide (0 ≤ x5_4) = true:=decide_eq_true c40;clear c40;replace H:=Option.bind_eq_some_iff.mp H;obtain ⟨t199,A410,H⟩:=H;replace H : (if t199 = true then (althingref7_call.l0 k4 a1 (wrap64 (x5_4 + 1)) a0_0 a0_1 a0_2 l0_3) else (some false)) = some r:=H;have A41:=am A410;clear A410
             by_cases c42 : t199 = true
             rotate_left
             ·replace c42:=Bool.eq_false_iff.mpr c42;subst c42
              have H1 : (some false) = some r:=by rw [if_neg (show ¬ (false = true) by decide)] at H;exact H
              clear H;have H:=H1;clear H1;obtain rfl:=Option.some.inj H;have hcz45_0 : wr.cell? ⟨gb192,0,none⟩ = some (.int .i64 a0_0):=(blk_cell BK192.out 0).trans rfl;have hcz45_1 : wr.cell? ⟨gb192,1,none⟩ = some (.int .i64 a0_1):=(blk_cell BK192.out 1).trans rfl;have hcz45_2 : wr.cell? ⟨gb192,2,none⟩ = some (.int .i64 a0_2):=(blk_cell BK192.out 2).trans rfl;have hcz45_3 : wr.cell? ⟨gb192,3,none⟩ = some (.slice A0_3 l0_3.length c0_3):=(blk_cell BK192.out 3).trans rfl;have hfz45_0:=blk_frozen BK192.out 0;have hfz45_1:=blk_frozen BK192.out 1;have hfz45_2:=blk_frozen BK192.out 2;have hfz45_3:=blk_frozen BK192.out 3;have p198 : 0 ≤ (x5_4 : Int):=of_decide_eq_true (by first | (with_reducible assumption) | assumption);have q198 : x5_4 < (l0_3.length : Int):=of_decide_eq_true (by first | (with_reducible assumption) | assumption);obtain ⟨ad198,A198_3,c198_3,e198,hx198_0,hx198_1,hx198_2,hx198_3,hl198_3,hi198_3⟩:=at_T25 HR0_3.out x5_4 p198 q198;cases e198;replace hx198_0:=(HB.out.cell (World.block_lt_of_cell? w _ hx198_0)).trans hx198_0;replace hx198_1:=(HB.out.cell (World.block_lt_of_cell? w _ hx198_1)).trans hx198_1;replace hx198_2:=(HB.out.cell (World.block_lt_of_cell? w _ hx198_2)).trans hx198_2;replace hx198_3:=(HB.out.cell (World.block_lt_of_cell? w _ hx198_3)).trans hx198_3;have HR198_3:=am hi198_3;have HC198_3:=am hl198_3;clear hi198_3 hl198_3;replace p198:=eq_true p198;replace q198:=eq_true q198
              go_wp2_with (first | ((with_reducible refine gate_callee (f:=38) rfl ?_);refine gl (some 78) Try.func38 #[.agg #[.int .i64 ((rd_T25 l0_3 x5_4).f0),.int .i64 ((rd_T25 l0_3 x5_4).f1),.int .i64 ((rd_T25 l0_3 x5_4).f2),.slice A198_3 ((rd_T25 l0_3 x5_4).f3).length c198_3],.int .i64 (wrap64 (a1 + 1))] ?_;(with_reducible refine (ih k4 (by have:=HJ2.out;have:=HJ23.out;have:=HJ30.out;have:=HK4.out;omega) ((rd_T25 l0_3 x5_4).f0) ((rd_T25 l0_3 x5_4).f1) ((rd_T25 l0_3 x5_4).f2) _ _ ((rd_T25 l0_3 x5_4).f3) (wrap64 (a1 + 1)) false _ ?side1 ?side2 A41.out).mono ?_);(case side1=>repeat (first | exact (Kd.C_below HR198_3.out HB.out) | (with_reducible refine Kd.C_alloc ?_ _) | (with_reducible refine Kd.C_drewN ?_ _) | (with_reducible refine Kd.C_drew ?_)));(case side2=>exact HC198_3.out);rintro e w46 ⟨rfl,hb⟩;refine ⟨_,rfl,?_⟩;have n0_:=am (blk_below (g:=gb192) (o:= .cells #[.int .i64 a0_0,.int .i64 a0_1,.int .i64 a0_2,.slice (some ad198) l0_3.length c0_3] 25 (0,0)) (by exact kq BK192.out) hb);have n1_:=am (below_step (by repeat (first | (with_reducible first | exact HB.out | apply ba | apply bn | apply bd | refine tb_ ?_ GE192.out) | exact HB.out)) hb);clear BK192;clear HB;have BK192:=n0_;have HB:=n1_;clear n0_ n1_;(try clear hb);(try clear hb2);(try clear hk);(try clear hi)))
              go_ret
              exact ⟨by first | rfl | (simp [errW_none,errW_some] <;> rfl) | (simp [*,errW_none,errW_some] <;> rfl),by repeat (first | (with_reducible first | exact HB.out | apply ba | apply bn | apply bd | refine tb_ ?_ GE192.out) | exact HB.out)⟩
             subst c42
             have H1 : (althingref7_call.l0 k4 a1 (wrap64 (x5_4 + 1)) a0_0 a0_1 a0_2 l0_3) = some r:=by rw [if_pos rfl] at H;exact H
             clear H;have H:=H1;clear H1;have H':=am H;clear H;have hcz43_0 : wr.cell? ⟨gb192,0,none⟩ = some (.int .i64 a0_0):=(blk_cell BK192.out 0).trans rfl;have hcz43_1 : wr.cell? ⟨gb192,1,none⟩ = some (.int .i64 a0_1):=(blk_cell BK192.out 1).trans rfl;have hcz43_2 : wr.cell? ⟨gb192,2,none⟩ = some (.int .i64 a0_2):=(blk_cell BK192.out 2).trans rfl;have hcz43_3 : wr.cell? ⟨gb192,3,none⟩ = some (.slice A0_3 l0_3.length c0_3):=(blk_cell BK192.out 3).trans rfl;have hfz43_0:=blk_frozen BK192.out 0;have hfz43_1:=blk_frozen BK192.out 1;have hfz43_2:=blk_frozen BK192.out 2;have hfz43_3:=blk_frozen BK192.out 3;have p198 : 0 ≤ (x5_4 : Int):=of_decide_eq_true (by first | (with_reducible assumption) | assumption);have q198 : x5_4 < (l0_3.length : Int):=of_decide_eq_true (by first | (with_reducible assumption) | assumption);obtain ⟨ad198,A198_3,c198_3,e198,hx198_0,hx198_1,hx198_2,hx198_3,hl198_3,hi198_3⟩:=at_T25 HR0_3.out x5_4 p198 q198;cases e198;replace hx198_0:=(HB.out.cell (World.block_lt_of_cell? w _ hx198_0)).trans hx198_0;replace hx198_1:=(HB.out.cell (World.block_lt_of_cell? w _ hx198_1)).trans hx198_1;replace hx198_2:=(HB.out.cell (World.block_lt_of_cell? w _ hx198_2)).trans hx198_2;replace hx198_3:=(HB.out.cell (World.block_lt_of_cell? w _ hx198_3)).trans hx198_3;have HR198_3:=am hi198_3;have HC198_3:=am hl198_3;clear hi198_3 hl198_3;replace p198:=eq_true p198;replace q198:=eq_true q198
             go_wp2_with (first | ((with_reducible refine gate_callee (f:=38) rfl ?_);refine gl (some 78) Try.func38 #[.agg #[.int .i64 ((rd_T25 l0_3 x5_4).f0),.int .i64 ((rd_T25 l0_3 x5_4).f1),.int .i64 ((rd_T25 l0_3 x5_4).f2),.slice A198_3 ((rd_T25 l0_3 x5_4).f3).length c198_3],.int .i64 (wrap64 (a1 + 1))] ?_;(with_reducible refine (ih k4 (by have:=HJ2.out;have:=HJ23.out;have:=HJ30.out;have:=HK4.out;omega) ((rd_T25 l0_3 x5_4).f0) ((rd_T25 l0_3 x5_4).f1) ((rd_T25 l0_3 x5_4).f2) _ _ ((rd_T25 l0_3 x5_4).f3) (wrap64 (a1 + 1)) true _ ?side1 ?side2 A41.out).mono ?_);(case side1=>repeat (first | exact (Kd.C_below HR198_3.out HB.out) | (with_reducible refine Kd.C_alloc ?_ _) | (with_reducible refine Kd.C_drewN ?_ _) | (with_reducible refine Kd.C_drew ?_)));(case side2=>exact HC198_3.out);rintro e w44 ⟨rfl,hb⟩;refine ⟨_,rfl,?_⟩;have n0_:=am (blk_below (g:=gb192) (o:= .cells #[.int .i64 a0_0,.int .i64 a0_1,.int .i64 a0_2,.slice (some ad198) l0_3.length c0_3] 25 (0,0)) (by exact kq BK192.out) hb);have n1_:=am (below_step (by repeat (first | (with_reducible first | exact HB.out | apply ba | apply bn | apply bd | refine tb_ ?_ GE192.out) | exact HB.out)) hb);clear BK192;clear HB;have BK192:=n0_;have HB:=n1_;clear n0_ n1_;(try clear hb);(try clear hb2);(try clear hk);(try clear hi)))
             go_roundg k4
             case measure=>have:=HJ2.out;have:=HJ23.out;have:=HJ30.out;have:=HK4.out;omega
             case rel=>exact ⟨(wrap64 (x5_4 + 1)),(by first | rfl | (simp;done) | (simp [*];done)),H',⟨by have:=HJ2.out;have:=HJ23.out;have:=HJ30.out;have:=HK4.out;omega⟩,⟨by exact kq BK192.out⟩,⟨by repeat (first | (with_reducible first | exact HB.out | apply ba | apply bn | apply bd | refine tb_ ?_ GE192.out) | exact HB.out)⟩⟩
end Go.Proofs.Ytilckocpgififaa.G
-- Laid by this session's own program gprint.py over the kit's print (given functions are proved by hand).
namespace Go.Proofs.Ytilckocpgififaa.G
open Go.RowKit Go.Proofs.YtilckocpgififaaW.PrintWords Go.Proofs.YtilckocpgififaaW.PrintLast Go.Proofs.YtilckocpgififaaW.PrintMore
attribute [local go_sem] max2_int min2_int max_two min_two max_three min_three max_four min_four   -- for this text's walks alone
set_option linter.unusedVariables false
set_option linter.unusedSimpArgs false
/-! ### althingref7_IsCall: function 17 -/
def althingref7_IsCall.f (k : Nat) (a0_0 : Int) (a0_1 : Int) (a0_2 : Int) (l0_3 : List (S25)) : Option (Bool):=(althingref7_call.f k a0_0 a0_1 a0_2 l0_3 0).bind fun t201=>(some t201)
set_option maxHeartbeats 8000000 in
set_option maxRecDepth 100000 in
theorem althingref7_IsCall.calls (k : Nat) (a0_0 : Int) (a0_1 : Int) (a0_2 : Int) (A0_3 : Option Addr) (c0_3 : Nat) (l0_3 : List (S25)) (r : Bool) (w : World) (hr0_3 : Kd.C k25 w A0_3 l0_3.length l0_3) (hc0_3 : l0_3.length ≤ c0_3) (h : althingref7_IsCall.f k a0_0 a0_1 a0_2 l0_3 = some r) :
 Calls Try.prog 17 #[.agg #[.int .i64 a0_0,.int .i64 a0_1,.int .i64 a0_2,.slice A0_3 l0_3.length c0_3]] w fun e w'=>e = .returned (.bool r) ∧ Below w.heap.size w w':=by
 have hu25:=Try.underlying25;have HR0_3:=am hr0_3;have HC0_3:=am hc0_3;clear hr0_3 hc0_3;have HB:=am (Below.refl w.heap.size w);have H : ((althingref7_call.f k a0_0 a0_1 a0_2 l0_3 0).bind fun t201=>(some t201)) = some r:=h;clear h;replace H:=Option.bind_eq_some_iff.mp H;obtain ⟨t201,A20,H⟩:=H;replace H : (some t201) = some r:=H;have A2:=am A20;clear A20;obtain rfl:=Option.some.inj H;go_enter Try.func17,Try.ntmps17
 go_wp2_with (first | ((with_reducible refine gate_dst (N:=1) rfl ?_);refine box_event ?hg (N:=1) ?hd (cs:=#[.int .i64 a0_0,.int .i64 a0_1,.int .i64 a0_2,.slice A0_3 l0_3.length c0_3]) (t:=25) ?hr ?_;(case hd=>rfl);(case hg=>rfl);(case hr=>first | (go_simp;done) | (go_simp;rfl));intro gb200 hg w3 hbox hb;have n0_:=am (below_step (by exact bq HB.out) hb);have n1_:=am (hbox);have n2_:=am ((by rw [hg];exact (below_size (by exact bq HB.out)) : w.heap.size ≤ gb200));have n3_:=am ((by rw [hg];exact (below_size (by exact bq HB.out)) : w.heap.size ≤ gb200));clear HB;have HB:=n0_;have BK200:=n1_;have GW200:=n2_;have GE200:=n3_;clear n0_ n1_ n2_ n3_;clear hb hbox hg;have hcz4_0 : w3.cell? ⟨gb200,0,none⟩ = some (.int .i64 a0_0):=(blk_cell BK200.out 0).trans rfl;have hcz4_1 : w3.cell? ⟨gb200,1,none⟩ = some (.int .i64 a0_1):=(blk_cell BK200.out 1).trans rfl;have hcz4_2 : w3.cell? ⟨gb200,2,none⟩ = some (.int .i64 a0_2):=(blk_cell BK200.out 2).trans rfl;have hcz4_3 : w3.cell? ⟨gb200,3,none⟩ = some (.slice A0_3 l0_3.length c0_3):=(blk_cell BK200.out 3).trans rfl;have hfz4_0:=blk_frozen BK200.out 0;have hfz4_1:=blk_frozen BK200.out 1;have hfz4_2:=blk_frozen BK200.out 2;have hfz4_3:=blk_frozen BK200.out 3) | ((with_reducible refine gate_callee (f:=38) rfl ?_);refine gl (some 4) Try.func38 #[.agg #[.int .i64 a0_0,.int .i64 a0_1,.int .i64 a0_2,.slice A0_3 l0_3.length c0_3],.int .i64 0] ?_;(with_reducible refine (althingref7_call.calls k a0_0 a0_1 a0_2 _ _ l0_3 0 t201 _ ?side1 ?side2 A2.out).mono ?_);(case side1=>repeat (first | exact (Kd.C_below HR0_3.out HB.out) | (with_reducible refine Kd.C_alloc ?_ _) | (with_reducible refine Kd.C_drewN ?_ _) | (with_reducible refine Kd.C_drew ?_)));(case side2=>exact HC0_3.out);rintro e w5 ⟨rfl,hb⟩;refine ⟨_,rfl,?_⟩;have n0_:=am (blk_below (g:=gb200) (o:= .cells #[.int .i64 a0_0,.int .i64 a0_1,.int .i64 a0_2,.slice A0_3 l0_3.length c0_3] 25 (0,0)) (by exact kq BK200.out) hb);have n1_:=am (below_step (by repeat (first | (with_reducible first | exact HB.out | apply ba | apply bn | apply bd | refine tb_ ?_ GE200.out) | exact HB.out)) hb);clear BK200;clear HB;have BK200:=n0_;have HB:=n1_;clear n0_ n1_;(try clear hb);(try clear hb2);(try clear hk);(try clear hi)))
 go_ret
 exact ⟨by first | rfl | (simp [errW_none,errW_some] <;> rfl) | (simp [*,errW_none,errW_some] <;> rfl),by repeat (first | (with_reducible first | exact HB.out | apply ba | apply bn | apply bd | refine tb_ ?_ GE200.out) | exact HB.out)⟩
/-! ### althingref7_names: function 30 -/
def althingref7_names.l0 : Nat → Int → ByteArray → Int → Option (Bool)
 | 0,_,_,_=>none
 | k + 1,x1,x5,x6=>if x6 < (x5.size : Int) then (if 0 ≤ x6 then (if (bt x5 x6) = x1 then (some true) else (althingref7_names.l0 k x1 x5 (wrap64 (x6 + 1)))) else (none)) else (some false)
def althingref7_names.f (k : Nat) (a0 : Int) (a1 : Int) : Option (Bool):=(some (([(⟨#[]⟩ : ByteArray),(⟨#[84,78]⟩ : ByteArray),(⟨#[67]⟩ : ByteArray),(⟨#[83]⟩ : ByteArray),(⟨#[75,83,78]⟩ : ByteArray),(⟨#[82]⟩ : ByteArray),(⟨#[82]⟩ : ByteArray),(⟨#[82,86]⟩ : ByteArray),(⟨#[82]⟩ : ByteArray),(⟨#[75,84,76,78]⟩ : ByteArray),(⟨#[75]⟩ : ByteArray),(⟨#[75]⟩ : ByteArray)] : List ByteArray) : List ByteArray)).bind fun y202=>(if 0 ≤ a0 then (if a0 < (y202.length : Int) then (althingref7_names.l0 k a1 (rdOf ByteArray.empty y202 a0) 0) else (none)) else (none))
set_option maxHeartbeats 8000000 in
set_option maxRecDepth 100000 in
theorem althingref7_names.calls (k : Nat) (a0 : Int) (a1 : Int) (r : Bool) (w : World) (h : althingref7_names.f k a0 a1 = some r) :
 Calls Try.prog 30 #[.int .i64 a0,.int .u8 a1] w fun e w'=>e = .returned (.bool r) ∧ Below w.heap.size w w':=by
 have HB:=am (Below.refl w.heap.size w);have H : ((some (([(⟨#[]⟩ : ByteArray),(⟨#[84,78]⟩ : ByteArray),(⟨#[67]⟩ : ByteArray),(⟨#[83]⟩ : ByteArray),(⟨#[75,83,78]⟩ : ByteArray),(⟨#[82]⟩ : ByteArray),(⟨#[82]⟩ : ByteArray),(⟨#[82,86]⟩ : ByteArray),(⟨#[82]⟩ : ByteArray),(⟨#[75,84,76,78]⟩ : ByteArray),(⟨#[75]⟩ : ByteArray),(⟨#[75]⟩ : ByteArray)] : List ByteArray) : List ByteArray)).bind fun y202=>(if 0 ≤ a0 then (if a0 < (y202.length : Int) then (althingref7_names.l0 k a1 (rdOf ByteArray.empty y202 a0) 0) else (none)) else (none))) = some r:=h;clear h;obtain ⟨y202,hy202⟩ : ∃ y_ : List ByteArray,y_ = (([(⟨#[]⟩ : ByteArray),(⟨#[84,78]⟩ : ByteArray),(⟨#[67]⟩ : ByteArray),(⟨#[83]⟩ : ByteArray),(⟨#[75,83,78]⟩ : ByteArray),(⟨#[82]⟩ : ByteArray),(⟨#[82]⟩ : ByteArray),(⟨#[82,86]⟩ : ByteArray),(⟨#[82]⟩ : ByteArray),(⟨#[75,84,76,78]⟩ : ByteArray),(⟨#[75]⟩ : ByteArray),(⟨#[75]⟩ : ByteArray)] : List ByteArray)):=⟨_,rfl⟩
 replace H : (if 0 ≤ a0 then (if a0 < (y202.length : Int) then (althingref7_names.l0 k a1 (rdOf ByteArray.empty y202 a0) 0) else (none)) else (none)) = some r:=by first | (rw [hy202];with_reducible exact H) | (have H2_:=(Option.bind_some _ _).symm.trans H;rw [hy202];with_reducible exact H2_) | (have H2_:=(Option.bind_some _ _).symm.trans H;with_reducible exact H2_) | with_reducible exact H | (rw [hy202];exact H) | exact H
 have Ny202:=am hy202;clear hy202
 by_cases c3 : 0 ≤ a0
 rotate_left
 ·rw [if_neg c3] at H;exact absurd H (by simp)
 rw [if_pos c3] at H;have c3b0 : decide (0 ≤ a0) = true:=decide_eq_true c3;clear c3
 by_cases c4 : a0 < (y202.length : Int)
 rotate_left
 ·rw [if_neg c4] at H;exact absurd H (by simp)
 rw [if_pos c4] at H;have c4b0 : decide (a0 < (y202.length : Int)) = true:=decide_eq_true c4;clear c4;have H':=am H;clear H;go_enter Try.func30,Try.ntmps30
 go_wp2_with (first | ((with_reducible refine gate_dst (N:=7) rfl ?_);refine Kd.R_lit Kd.string _ 9 ?hg (N:=7) ?hd (xs:=([(⟨#[]⟩ : ByteArray),(⟨#[84,78]⟩ : ByteArray),(⟨#[67]⟩ : ByteArray),(⟨#[83]⟩ : ByteArray),(⟨#[75,83,78]⟩ : ByteArray),(⟨#[82]⟩ : ByteArray),(⟨#[82]⟩ : ByteArray),(⟨#[82,86]⟩ : ByteArray),(⟨#[82]⟩ : ByteArray),(⟨#[75,84,76,78]⟩ : ByteArray),(⟨#[75]⟩ : ByteArray),(⟨#[75]⟩ : ByteArray)] : List ByteArray)) (inner:=[.string (⟨#[]⟩ : ByteArray),.string (⟨#[84,78]⟩ : ByteArray),.string (⟨#[67]⟩ : ByteArray),.string (⟨#[83]⟩ : ByteArray),.string (⟨#[75,83,78]⟩ : ByteArray),.string (⟨#[82]⟩ : ByteArray),.string (⟨#[82]⟩ : ByteArray),.string (⟨#[82,86]⟩ : ByteArray),.string (⟨#[82]⟩ : ByteArray),.string (⟨#[75,84,76,78]⟩ : ByteArray),.string (⟨#[75]⟩ : ByteArray),.string (⟨#[75]⟩ : ByteArray)]) (ok:=fun _=>True) (okp:=fun _=>True) ?hr ?hp (fun _ hk=>hk) trivial (Below.refl _ _) (Nat.le_refl _) (by simp) ?_;(case hd=>rfl);(case hg=>rfl);(case hr=>first | (go_simp;done) | (go_simp;rfl));(case hp=>exact (Reps.one (show Kd.M Kd.string _ _ _ (⟨#[]⟩ : ByteArray) [.string (⟨#[]⟩ : ByteArray)] from rfl) (Reps.one (show Kd.M Kd.string _ _ _ (⟨#[84,78]⟩ : ByteArray) [.string (⟨#[84,78]⟩ : ByteArray)] from rfl) (Reps.one (show Kd.M Kd.string _ _ _ (⟨#[67]⟩ : ByteArray) [.string (⟨#[67]⟩ : ByteArray)] from rfl) (Reps.one (show Kd.M Kd.string _ _ _ (⟨#[83]⟩ : ByteArray) [.string (⟨#[83]⟩ : ByteArray)] from rfl) (Reps.one (show Kd.M Kd.string _ _ _ (⟨#[75,83,78]⟩ : ByteArray) [.string (⟨#[75,83,78]⟩ : ByteArray)] from rfl) (Reps.one (show Kd.M Kd.string _ _ _ (⟨#[82]⟩ : ByteArray) [.string (⟨#[82]⟩ : ByteArray)] from rfl) (Reps.one (show Kd.M Kd.string _ _ _ (⟨#[82]⟩ : ByteArray) [.string (⟨#[82]⟩ : ByteArray)] from rfl) (Reps.one (show Kd.M Kd.string _ _ _ (⟨#[82,86]⟩ : ByteArray) [.string (⟨#[82,86]⟩ : ByteArray)] from rfl) (Reps.one (show Kd.M Kd.string _ _ _ (⟨#[82]⟩ : ByteArray) [.string (⟨#[82]⟩ : ByteArray)] from rfl) (Reps.one (show Kd.M Kd.string _ _ _ (⟨#[75,84,76,78]⟩ : ByteArray) [.string (⟨#[75,84,76,78]⟩ : ByteArray)] from rfl) (Reps.one (show Kd.M Kd.string _ _ _ (⟨#[75]⟩ : ByteArray) [.string (⟨#[75]⟩ : ByteArray)] from rfl) (Reps.one (show Kd.M Kd.string _ _ _ (⟨#[75]⟩ : ByteArray) [.string (⟨#[75]⟩ : ByteArray)] from rfl) (Reps.none _ _))))))))))))));intro v203 w5 ho6 hb hg_ hnew_;clear hg_ hnew_;(first | rw [← Ny202.out] at ho6 | (simp only [Int.reduceToNat] at ho6;rw [← Ny202.out] at ho6));have n0_:=am (Kd.R_lower ho6 (below_size (by exact bq HB.out)));have n1_:=am (below_step (by exact bq HB.out) hb);clear HB;have HO204:=n0_;have HB:=n1_;clear n0_ n1_;clear hb ho6;obtain ⟨Ao7,co7,eo7⟩:=Kd.R_slice HO204.out;subst eo7;have p205 : 0 ≤ (a0 : Int):=of_decide_eq_true (by first | (with_reducible assumption) | assumption);have q205 : a0 < (y202.length : Int):=of_decide_eq_true (by first | (with_reducible assumption) | assumption);obtain ⟨ad205,e205,hx205_0⟩:=Kd.at_string (Kd.R_reads' HO204.out).2.2 a0 p205 q205;cases e205;replace p205:=eq_true p205;replace q205:=eq_true q205))
 go_loopg [6] k (fun kq v6 w'=>∃ (x6_1 : Int),v6 = .int .i64 x6_1 ∧ Aside0 (althingref7_names.l0 kq a1 (rdOf ByteArray.empty y202 a0) x6_1 = some r) ∧ Aside0 (kq ≤ k) ∧ Aside0 (Below w.heap.size w w'))
 case atStart=>exact ⟨(0),(by first | rfl | (simp;done) | (simp [*];done)),H',⟨Nat.le_refl _⟩,⟨by exact bq HB.out⟩⟩
 case round=>
  clear H'
  try clear p2
  try clear q2
  try clear hx2
  try clear c3
  try clear c3b0
  try clear c4
  try clear c4b0
  try clear hx205_0
  try clear p205
  try clear q205
  obtain ⟨x6_1,rfl,HA,HK1,HB⟩:=hrel
  cases gk with
  | zero=>exact absurd HA.out (by simp [althingref7_names.l0])
  | succ k1=>
    have H:=HA.out;clear HA;simp only [althingref7_names.l0] at H
    by_cases c8 : x6_1 < ((rdOf ByteArray.empty y202 a0).size : Int)
    rotate_left
    ·rw [if_neg c8] at H;have c8b0 : decide (x6_1 < ((rdOf ByteArray.empty y202 a0).size : Int)) = false:=decide_eq_false c8;clear c8;obtain rfl:=Option.some.inj H
     go_wp2
     go_ret
     exact ⟨by first | rfl | (simp [errW_none,errW_some] <;> rfl) | (simp [*,errW_none,errW_some] <;> rfl),by exact bq HB.out⟩
    rw [if_pos c8] at H;have c8b0 : decide (x6_1 < ((rdOf ByteArray.empty y202 a0).size : Int)) = true:=decide_eq_true c8;clear c8
    by_cases c9 : 0 ≤ x6_1
    rotate_left
    ·rw [if_neg c9] at H;exact absurd H (by simp)
    rw [if_pos c9] at H;have c9b0 : decide (0 ≤ x6_1) = true:=decide_eq_true c9;clear c9
    by_cases c11 : (bt (rdOf ByteArray.empty y202 a0) x6_1) = a1
    ·rw [if_pos c11] at H;have c11b0 : ((bt (rdOf ByteArray.empty y202 a0) x6_1) == a1) = true:=beq_iff_eq.mpr c11;have c11b1 : ((bt (rdOf ByteArray.empty y202 a0) x6_1) != a1) = false:=bne_eq_false_iff_eq.mpr c11;clear c11;obtain rfl:=Option.some.inj H;have p10 : 0 ≤ (x6_1 : Int):=of_decide_eq_true (by first | (with_reducible assumption) | assumption);have q10 : x6_1 < ((rdOf ByteArray.empty y202 a0).size : Int):=of_decide_eq_true (by first | (with_reducible assumption) | assumption);have hx10:=bt_at (rdOf ByteArray.empty y202 a0) x6_1;replace p10:=eq_true p10;replace q10:=eq_true q10
     go_wp2
     go_ret
     exact ⟨by first | rfl | (simp [errW_none,errW_some] <;> rfl) | (simp [*,errW_none,errW_some] <;> rfl),by exact bq HB.out⟩
    rw [if_neg c11] at H;have c11b0 : ((bt (rdOf ByteArray.empty y202 a0) x6_1) == a1) = false:=beq_eq_false_iff_ne.mpr c11;have c11b1 : ((bt (rdOf ByteArray.empty y202 a0) x6_1) != a1) = true:=bne_iff_ne.mpr c11;have H':=am H;clear H;have p10 : 0 ≤ (x6_1 : Int):=of_decide_eq_true (by first | (with_reducible assumption) | assumption);have q10 : x6_1 < ((rdOf ByteArray.empty y202 a0).size : Int):=of_decide_eq_true (by first | (with_reducible assumption) | assumption);have hx10:=bt_at (rdOf ByteArray.empty y202 a0) x6_1;replace p10:=eq_true p10;replace q10:=eq_true q10
    go_wp2
    go_roundg k1
    case measure=>have:=HK1.out;omega
    case rel=>exact ⟨(wrap64 (x6_1 + 1)),(by first | rfl | (simp;done) | (simp [*];done)),H',⟨by have:=HK1.out;omega⟩,⟨by exact bq HB.out⟩⟩
/-! ### althingref7_num: function 29 -/
def althingref7_num.f (k : Nat) (a0 : Int) (a1 : Int) (a2 : Int) (a3 : Int) : Option (Bool):=(althingref7_names.f k a0 a1).bind fun t206=>(if t206 = true then ((althingref7_in.f a2 0 a3).bind fun t207=>(some t207)) else (some (a2 == 0)))
set_option maxHeartbeats 8000000 in
set_option maxRecDepth 100000 in
theorem althingref7_num.calls (k : Nat) (a0 : Int) (a1 : Int) (a2 : Int) (a3 : Int) (r : Bool) (w : World) (h : althingref7_num.f k a0 a1 a2 a3 = some r) :
 Calls Try.prog 29 #[.int .i64 a0,.int .u8 a1,.int .i64 a2,.int .i64 a3] w fun e w'=>e = .returned (.bool r) ∧ Below w.heap.size w w':=by
 have HB:=am (Below.refl w.heap.size w);have H : ((althingref7_names.f k a0 a1).bind fun t206=>(if t206 = true then ((althingref7_in.f a2 0 a3).bind fun t207=>(some t207)) else (some (a2 == 0)))) = some r:=h;clear h;replace H:=Option.bind_eq_some_iff.mp H;obtain ⟨t206,A50,H⟩:=H;replace H : (if t206 = true then ((althingref7_in.f a2 0 a3).bind fun t207=>(some t207)) else (some (a2 == 0))) = some r:=H;have A5:=am A50;clear A50
 by_cases c6 : t206 = true
 rotate_left
 ·replace c6:=Bool.eq_false_iff.mpr c6;subst c6
  have H1 : (some (a2 == 0)) = some r:=by rw [if_neg (show ¬ (false = true) by decide)] at H;exact H
  clear H;have H:=H1;clear H1;obtain rfl:=Option.some.inj H;go_enter Try.func29,Try.ntmps29
  go_wp2_with (first | ((with_reducible refine gate_callee (f:=30) rfl ?_);refine gl (some 11) Try.func30 #[.int .i64 a0,.int .u8 a1] ?_;(with_reducible refine (althingref7_names.calls k a0 a1 false _ A5.out).mono ?_);rintro e w9 ⟨rfl,hb⟩;refine ⟨_,rfl,?_⟩;have n0_:=am (below_step (by exact bq HB.out) hb);clear HB;have HB:=n0_;clear n0_;(try clear hb);(try clear hb2);(try clear hk);(try clear hi)))
  go_ret
  exact ⟨by first | rfl | (simp [errW_none,errW_some] <;> rfl) | (simp [*,errW_none,errW_some] <;> rfl),by exact bq HB.out⟩
 subst c6
 have H1 : ((althingref7_in.f a2 0 a3).bind fun t207=>(some t207)) = some r:=by rw [if_pos rfl] at H;exact H
 clear H;have H:=H1;clear H1;replace H:=Option.bind_eq_some_iff.mp H;obtain ⟨t207,A70,H⟩:=H;replace H : (some t207) = some r:=H;have A7:=am A70;clear A70;obtain rfl:=Option.some.inj H;go_enter Try.func29,Try.ntmps29
 go_wp2_with (first | ((with_reducible refine gate_callee (f:=30) rfl ?_);refine gl (some 11) Try.func30 #[.int .i64 a0,.int .u8 a1] ?_;(with_reducible refine (althingref7_names.calls k a0 a1 true _ A5.out).mono ?_);rintro e w8 ⟨rfl,hb⟩;refine ⟨_,rfl,?_⟩;have n0_:=am (below_step (by exact bq HB.out) hb);clear HB;have HB:=n0_;clear n0_;(try clear hb);(try clear hb2);(try clear hk);(try clear hi)) | ((with_reducible refine gate_callee (f:=28) rfl ?_);refine gl (some 17) Try.func28 #[.int .i64 a2,.int .i64 0,.int .i64 a3] ?_;(with_reducible refine (althingref7_in.calls a2 0 a3 t207 _ A7.out).mono ?_);rintro e w' ⟨rfl,⟨nd,rfl⟩⟩;refine ⟨_,rfl,?_⟩))
 go_ret
 exact ⟨by first | rfl | (simp [errW_none,errW_some] <;> rfl) | (simp [*,errW_none,errW_some] <;> rfl),by exact bq HB.out⟩
/-! ### althingref5_in: function 55 -/
def althingref5_in.f (a0 : Int) (a1 : Int) (a2 : Int) : Option (Bool):=if a0 ≥ a1 then (some (decide (a0 ≤ a2))) else (some false)
set_option maxHeartbeats 8000000 in
set_option maxRecDepth 100000 in
theorem althingref5_in.calls (a0 : Int) (a1 : Int) (a2 : Int) (r : Bool) (w : World) (h : althingref5_in.f a0 a1 a2 = some r) :
 Calls Try.prog 55 #[.int .i64 a0,.int .i64 a1,.int .i64 a2] w fun e w'=>e = .returned (.bool r) ∧ Drawn0 w w':=by
 have H : (if a0 ≥ a1 then (some (decide (a0 ≤ a2))) else (some false)) = some r:=h;clear h
 by_cases c4 : a0 ≥ a1
 ·rw [if_pos c4] at H;have c4b0 : decide (a1 ≤ a0) = true:=decide_eq_true c4;clear c4;obtain rfl:=Option.some.inj H;go_enter Try.func55,Try.ntmps55
  go_wp2
  go_ret
  exact ⟨by first | rfl | (simp;done) | (simp [*];done),by repeat (first | exact Drawn0.refl _ | apply Drawn0.step)⟩
 rw [if_neg c4] at H;have c4b0 : decide (a1 ≤ a0) = false:=decide_eq_false c4;clear c4;obtain rfl:=Option.some.inj H;go_enter Try.func55,Try.ntmps55
 go_wp2
 go_ret
 exact ⟨by first | rfl | (simp;done) | (simp [*];done),by repeat (first | exact Drawn0.refl _ | apply Drawn0.step)⟩
/-! ### althingref5_Is: function 31 -/
def althingref5_Is.j0 : Nat → Bool → Int → Bool → Int → Int → Int → Int → Option (Bool)
 | 0,_,_,_,_,_,_,_=>none
 | k + 1,x29,x209000,x209001,x209002,x209003,x209004,x209005=>if x29 = true then (some false) else (if x209000 = 1 then ((althingref5_in.f x209002 0 6).bind fun t212=>(if t212 = true then (if x209004 = 0 then (some (x209005 == 0)) else (some false)) else (some false))) else (if x209000 = 2 then (if x209001 = true then (some false) else (if x209002 = 0 then (some (x209005 == 0)) else (some false))) else (if x209000 = 3 then (if x209001 = true then (some false) else (some (x209002 == 0))) else (some false))))
def althingref5_Is.f (k : Nat) (a0_0 : Int) (a0_1 : Bool) (a0_2 : Int) (a0_3 : Int) (a0_4 : Int) (a0_5 : Int) : Option (Bool):=(althingref5_in.f a0_3 0 1073741824).bind fun t209=>(if t209 = true then ((althingref5_in.f a0_4 0 1073741824).bind fun t210=>(if t210 = true then ((althingref5_in.f a0_5 0 1073741824).bind fun t211=>(if t211 = true then (althingref5_Is.j0 k (decide ((wrap64 ((wrap64 (a0_3 + a0_4)) + a0_5)) > 1073741824)) a0_0 a0_1 a0_2 a0_3 a0_4 a0_5) else (althingref5_Is.j0 k true a0_0 a0_1 a0_2 a0_3 a0_4 a0_5))) else (althingref5_Is.j0 k true a0_0 a0_1 a0_2 a0_3 a0_4 a0_5))) else (althingref5_Is.j0 k true a0_0 a0_1 a0_2 a0_3 a0_4 a0_5))
set_option maxHeartbeats 8000000 in
set_option maxRecDepth 100000 in
theorem althingref5_Is.calls (k : Nat) (a0_0 : Int) (a0_1 : Bool) (a0_2 : Int) (a0_3 : Int) (a0_4 : Int) (a0_5 : Int) (r : Bool) (w : World) (h : althingref5_Is.f k a0_0 a0_1 a0_2 a0_3 a0_4 a0_5 = some r) :
 Calls Try.prog 31 #[.agg #[.int .i64 a0_0,.bool a0_1,.int .i64 a0_2,.int .i64 a0_3,.int .i64 a0_4,.int .i64 a0_5]] w fun e w'=>e = .returned (.bool r) ∧ Below w.heap.size w w':=by
 have hu31:=Try.underlying31;have HB:=am (Below.refl w.heap.size w);have H : ((althingref5_in.f a0_3 0 1073741824).bind fun t209=>(if t209 = true then ((althingref5_in.f a0_4 0 1073741824).bind fun t210=>(if t210 = true then ((althingref5_in.f a0_5 0 1073741824).bind fun t211=>(if t211 = true then (althingref5_Is.j0 k (decide ((wrap64 ((wrap64 (a0_3 + a0_4)) + a0_5)) > 1073741824)) a0_0 a0_1 a0_2 a0_3 a0_4 a0_5) else (althingref5_Is.j0 k true a0_0 a0_1 a0_2 a0_3 a0_4 a0_5))) else (althingref5_Is.j0 k true a0_0 a0_1 a0_2 a0_3 a0_4 a0_5))) else (althingref5_Is.j0 k true a0_0 a0_1 a0_2 a0_3 a0_4 a0_5))) = some r:=h;clear h;have HC2:=am H;clear H;go_enter Try.func31,Try.ntmps31
 go_upto_region 1 with (first | ((with_reducible refine gate_dst (N:=1) rfl ?_);refine box_event ?hg (N:=1) ?hd (cs:=#[.int .i64 a0_0,.bool a0_1,.int .i64 a0_2,.int .i64 a0_3,.int .i64 a0_4,.int .i64 a0_5]) (t:=31) ?hr ?_;(case hd=>rfl);(case hg=>rfl);(case hr=>first | (go_simp;done) | (go_simp;rfl));intro gb208 hg w3 hbox hb;have n0_:=am (below_step (by exact bq HB.out) hb);have n1_:=am (hbox);have n2_:=am ((by rw [hg];exact (below_size (by exact bq HB.out)) : w.heap.size ≤ gb208));have n3_:=am ((by rw [hg];exact (below_size (by exact bq HB.out)) : w.heap.size ≤ gb208));clear HB;have HB:=n0_;have BK208:=n1_;have GW208:=n2_;have GE208:=n3_;clear n0_ n1_ n2_ n3_;clear hb hbox hg))
 (try simp only [Act.put,List.setIfInBounds_toArray,List.set_cons_zero,List.set_cons_succ])
 go_cut [29] (fun v29 wc=>∃ (kq : Nat) (x29_1 : Bool),v29 = .bool x29_1 ∧ Aside0 (althingref5_Is.j0 kq x29_1 a0_0 a0_1 a0_2 a0_3 a0_4 a0_5 = some r) ∧ Aside0 (kq ≤ k) ∧ Aside0 (wc.heap[gb208]? = some (.cells #[.int .i64 a0_0,.bool a0_1,.int .i64 a0_2,.int .i64 a0_3,.int .i64 a0_4,.int .i64 a0_5] 31 (0,0))) ∧ Aside0 (Below w.heap.size w wc))
 case first=>
  have H:=HC2.out;clear HC2;replace H:=Option.bind_eq_some_iff.mp H;obtain ⟨t209,A40,H⟩:=H;replace H : (if t209 = true then ((althingref5_in.f a0_4 0 1073741824).bind fun t210=>(if t210 = true then ((althingref5_in.f a0_5 0 1073741824).bind fun t211=>(if t211 = true then (althingref5_Is.j0 k (decide ((wrap64 ((wrap64 (a0_3 + a0_4)) + a0_5)) > 1073741824)) a0_0 a0_1 a0_2 a0_3 a0_4 a0_5) else (althingref5_Is.j0 k true a0_0 a0_1 a0_2 a0_3 a0_4 a0_5))) else (althingref5_Is.j0 k true a0_0 a0_1 a0_2 a0_3 a0_4 a0_5))) else (althingref5_Is.j0 k true a0_0 a0_1 a0_2 a0_3 a0_4 a0_5)) = some r:=H;have A4:=am A40;clear A40
  by_cases c5 : t209 = true
  rotate_left
  ·replace c5:=Bool.eq_false_iff.mpr c5;subst c5
   have H1 : (althingref5_Is.j0 k true a0_0 a0_1 a0_2 a0_3 a0_4 a0_5) = some r:=by rw [if_neg (show ¬ (false = true) by decide)] at H;exact H
   clear H;have H:=H1;clear H1;have H':=am H;clear H;have hcz13_0 : w3.cell? ⟨gb208,0,none⟩ = some (.int .i64 a0_0):=(blk_cell BK208.out 0).trans rfl;have hcz13_1 : w3.cell? ⟨gb208,1,none⟩ = some (.bool a0_1):=(blk_cell BK208.out 1).trans rfl;have hcz13_2 : w3.cell? ⟨gb208,2,none⟩ = some (.int .i64 a0_2):=(blk_cell BK208.out 2).trans rfl;have hcz13_3 : w3.cell? ⟨gb208,3,none⟩ = some (.int .i64 a0_3):=(blk_cell BK208.out 3).trans rfl;have hcz13_4 : w3.cell? ⟨gb208,4,none⟩ = some (.int .i64 a0_4):=(blk_cell BK208.out 4).trans rfl;have hcz13_5 : w3.cell? ⟨gb208,5,none⟩ = some (.int .i64 a0_5):=(blk_cell BK208.out 5).trans rfl;have hfz13_0:=blk_frozen BK208.out 0;have hfz13_1:=blk_frozen BK208.out 1;have hfz13_2:=blk_frozen BK208.out 2;have hfz13_3:=blk_frozen BK208.out 3;have hfz13_4:=blk_frozen BK208.out 4;have hfz13_5:=blk_frozen BK208.out 5
   go_wp2_with (first | ((with_reducible refine gate_callee (f:=55) rfl ?_);refine gl (some 5) Try.func55 #[.int .i64 a0_3,.int .i64 0,.int .i64 1073741824] ?_;(with_reducible refine (althingref5_in.calls a0_3 0 1073741824 false _ A4.out).mono ?_);rintro e w' ⟨rfl,⟨nd,rfl⟩⟩;refine ⟨_,rfl,?_⟩))
   go_meet
   case rel=>exact ⟨_,(true),(by first | rfl | (simp;done) | (simp [*];done)),H',⟨by first | omega | exact Nat.le_refl _⟩,⟨by exact kq BK208.out⟩,⟨by repeat (first | (with_reducible first | exact HB.out | apply ba | apply bn | apply bd | refine tb_ ?_ GE208.out) | exact HB.out)⟩⟩
  subst c5
  have H1 : ((althingref5_in.f a0_4 0 1073741824).bind fun t210=>(if t210 = true then ((althingref5_in.f a0_5 0 1073741824).bind fun t211=>(if t211 = true then (althingref5_Is.j0 k (decide ((wrap64 ((wrap64 (a0_3 + a0_4)) + a0_5)) > 1073741824)) a0_0 a0_1 a0_2 a0_3 a0_4 a0_5) else (althingref5_Is.j0 k true a0_0 a0_1 a0_2 a0_3 a0_4 a0_5))) else (althingref5_Is.j0 k true a0_0 a0_1 a0_2 a0_3 a0_4 a0_5))) = some r:=by rw [if_pos rfl] at H;exact H
  clear H;have H:=H1;clear H1;replace H:=Option.bind_eq_some_iff.mp H;obtain ⟨t210,A60,H⟩:=H;replace H : (if t210 = true then ((althingref5_in.f a0_5 0 1073741824).bind fun t211=>(if t211 = true then (althingref5_Is.j0 k (decide ((wrap64 ((wrap64 (a0_3 + a0_4)) + a0_5)) > 1073741824)) a0_0 a0_1 a0_2 a0_3 a0_4 a0_5) else (althingref5_Is.j0 k true a0_0 a0_1 a0_2 a0_3 a0_4 a0_5))) else (althingref5_Is.j0 k true a0_0 a0_1 a0_2 a0_3 a0_4 a0_5)) = some r:=H;have A6:=am A60;clear A60
  by_cases c7 : t210 = true
  rotate_left
  ·replace c7:=Bool.eq_false_iff.mpr c7;subst c7
   have H1 : (althingref5_Is.j0 k true a0_0 a0_1 a0_2 a0_3 a0_4 a0_5) = some r:=by rw [if_neg (show ¬ (false = true) by decide)] at H;exact H
   clear H;have H:=H1;clear H1;have H':=am H;clear H;have hcz12_0 : w3.cell? ⟨gb208,0,none⟩ = some (.int .i64 a0_0):=(blk_cell BK208.out 0).trans rfl;have hcz12_1 : w3.cell? ⟨gb208,1,none⟩ = some (.bool a0_1):=(blk_cell BK208.out 1).trans rfl;have hcz12_2 : w3.cell? ⟨gb208,2,none⟩ = some (.int .i64 a0_2):=(blk_cell BK208.out 2).trans rfl;have hcz12_3 : w3.cell? ⟨gb208,3,none⟩ = some (.int .i64 a0_3):=(blk_cell BK208.out 3).trans rfl;have hcz12_4 : w3.cell? ⟨gb208,4,none⟩ = some (.int .i64 a0_4):=(blk_cell BK208.out 4).trans rfl;have hcz12_5 : w3.cell? ⟨gb208,5,none⟩ = some (.int .i64 a0_5):=(blk_cell BK208.out 5).trans rfl;have hfz12_0:=blk_frozen BK208.out 0;have hfz12_1:=blk_frozen BK208.out 1;have hfz12_2:=blk_frozen BK208.out 2;have hfz12_3:=blk_frozen BK208.out 3;have hfz12_4:=blk_frozen BK208.out 4;have hfz12_5:=blk_frozen BK208.out 5
   go_wp2_with (first | ((with_reducible refine gate_callee (f:=55) rfl ?_);refine gl (some 5) Try.func55 #[.int .i64 a0_3,.int .i64 0,.int .i64 1073741824] ?_;(with_reducible refine (althingref5_in.calls a0_3 0 1073741824 true _ A4.out).mono ?_);rintro e w' ⟨rfl,⟨nd,rfl⟩⟩;refine ⟨_,rfl,?_⟩) | (go_at_call 55;(with_reducible refine (althingref5_in.calls a0_4 0 1073741824 false _ A6.out).mono ?_);rintro e w' ⟨rfl,⟨nd,rfl⟩⟩))
   go_meet
   case rel=>exact ⟨_,(true),(by first | rfl | (simp;done) | (simp [*];done)),H',⟨by first | omega | exact Nat.le_refl _⟩,⟨by exact kq BK208.out⟩,⟨by repeat (first | (with_reducible first | exact HB.out | apply ba | apply bn | apply bd | refine tb_ ?_ GE208.out) | exact HB.out)⟩⟩
  subst c7
  have H1 : ((althingref5_in.f a0_5 0 1073741824).bind fun t211=>(if t211 = true then (althingref5_Is.j0 k (decide ((wrap64 ((wrap64 (a0_3 + a0_4)) + a0_5)) > 1073741824)) a0_0 a0_1 a0_2 a0_3 a0_4 a0_5) else (althingref5_Is.j0 k true a0_0 a0_1 a0_2 a0_3 a0_4 a0_5))) = some r:=by rw [if_pos rfl] at H;exact H
  clear H;have H:=H1;clear H1;replace H:=Option.bind_eq_some_iff.mp H;obtain ⟨t211,A80,H⟩:=H;replace H : (if t211 = true then (althingref5_Is.j0 k (decide ((wrap64 ((wrap64 (a0_3 + a0_4)) + a0_5)) > 1073741824)) a0_0 a0_1 a0_2 a0_3 a0_4 a0_5) else (althingref5_Is.j0 k true a0_0 a0_1 a0_2 a0_3 a0_4 a0_5)) = some r:=H;have A8:=am A80;clear A80
  by_cases c9 : t211 = true
  rotate_left
  ·replace c9:=Bool.eq_false_iff.mpr c9;subst c9
   have H1 : (althingref5_Is.j0 k true a0_0 a0_1 a0_2 a0_3 a0_4 a0_5) = some r:=by rw [if_neg (show ¬ (false = true) by decide)] at H;exact H
   clear H;have H:=H1;clear H1;have H':=am H;clear H;have hcz11_0 : w3.cell? ⟨gb208,0,none⟩ = some (.int .i64 a0_0):=(blk_cell BK208.out 0).trans rfl;have hcz11_1 : w3.cell? ⟨gb208,1,none⟩ = some (.bool a0_1):=(blk_cell BK208.out 1).trans rfl;have hcz11_2 : w3.cell? ⟨gb208,2,none⟩ = some (.int .i64 a0_2):=(blk_cell BK208.out 2).trans rfl;have hcz11_3 : w3.cell? ⟨gb208,3,none⟩ = some (.int .i64 a0_3):=(blk_cell BK208.out 3).trans rfl;have hcz11_4 : w3.cell? ⟨gb208,4,none⟩ = some (.int .i64 a0_4):=(blk_cell BK208.out 4).trans rfl;have hcz11_5 : w3.cell? ⟨gb208,5,none⟩ = some (.int .i64 a0_5):=(blk_cell BK208.out 5).trans rfl;have hfz11_0:=blk_frozen BK208.out 0;have hfz11_1:=blk_frozen BK208.out 1;have hfz11_2:=blk_frozen BK208.out 2;have hfz11_3:=blk_frozen BK208.out 3;have hfz11_4:=blk_frozen BK208.out 4;have hfz11_5:=blk_frozen BK208.out 5
   go_wp2_with (first | ((with_reducible refine gate_callee (f:=55) rfl ?_);refine gl (some 5) Try.func55 #[.int .i64 a0_3,.int .i64 0,.int .i64 1073741824] ?_;(with_reducible refine (althingref5_in.calls a0_3 0 1073741824 true _ A4.out).mono ?_);rintro e w' ⟨rfl,⟨nd,rfl⟩⟩;refine ⟨_,rfl,?_⟩) | (go_at_call 55;(with_reducible refine (althingref5_in.calls a0_4 0 1073741824 true _ A6.out).mono ?_);rintro e w' ⟨rfl,⟨nd,rfl⟩⟩) | (go_at_call 55;(with_reducible refine (althingref5_in.calls a0_5 0 1073741824 false _ A8.out).mono ?_);rintro e w' ⟨rfl,⟨nd,rfl⟩⟩))
   go_meet
   case rel=>exact ⟨_,(true),(by first | rfl | (simp;done) | (simp [*];done)),H',⟨by first | omega | exact Nat.le_refl _⟩,⟨by exact kq BK208.out⟩,⟨by repeat (first | (with_reducible first | exact HB.out | apply ba | apply bn | apply bd | refine tb_ ?_ GE208.out) | exact HB.out)⟩⟩
  subst c9
  have H1 : (althingref5_Is.j0 k (decide ((wrap64 ((wrap64 (a0_3 + a0_4)) + a0_5)) > 1073741824)) a0_0 a0_1 a0_2 a0_3 a0_4 a0_5) = some r:=by rw [if_pos rfl] at H;exact H
  clear H;have H:=H1;clear H1;have H':=am H;clear H;have hcz10_0 : w3.cell? ⟨gb208,0,none⟩ = some (.int .i64 a0_0):=(blk_cell BK208.out 0).trans rfl;have hcz10_1 : w3.cell? ⟨gb208,1,none⟩ = some (.bool a0_1):=(blk_cell BK208.out 1).trans rfl;have hcz10_2 : w3.cell? ⟨gb208,2,none⟩ = some (.int .i64 a0_2):=(blk_cell BK208.out 2).trans rfl;have hcz10_3 : w3.cell? ⟨gb208,3,none⟩ = some (.int .i64 a0_3):=(blk_cell BK208.out 3).trans rfl;have hcz10_4 : w3.cell? ⟨gb208,4,none⟩ = some (.int .i64 a0_4):=(blk_cell BK208.out 4).trans rfl;have hcz10_5 : w3.cell? ⟨gb208,5,none⟩ = some (.int .i64 a0_5):=(blk_cell BK208.out 5).trans rfl;have hfz10_0:=blk_frozen BK208.out 0;have hfz10_1:=blk_frozen BK208.out 1;have hfz10_2:=blk_frozen BK208.out 2;have hfz10_3:=blk_frozen BK208.out 3;have hfz10_4:=blk_frozen BK208.out 4;have hfz10_5:=blk_frozen BK208.out 5
  go_wp2_with (first | ((with_reducible refine gate_callee (f:=55) rfl ?_);refine gl (some 5) Try.func55 #[.int .i64 a0_3,.int .i64 0,.int .i64 1073741824] ?_;(with_reducible refine (althingref5_in.calls a0_3 0 1073741824 true _ A4.out).mono ?_);rintro e w' ⟨rfl,⟨nd,rfl⟩⟩;refine ⟨_,rfl,?_⟩) | (go_at_call 55;(with_reducible refine (althingref5_in.calls a0_4 0 1073741824 true _ A6.out).mono ?_);rintro e w' ⟨rfl,⟨nd,rfl⟩⟩) | (go_at_call 55;(with_reducible refine (althingref5_in.calls a0_5 0 1073741824 true _ A8.out).mono ?_);rintro e w' ⟨rfl,⟨nd,rfl⟩⟩))
  go_meet
  case rel=>exact ⟨_,(decide ((wrap64 ((wrap64 (a0_3 + a0_4)) + a0_5)) > 1073741824)),(by first | rfl | (simp;done) | (simp [*];done)),H',⟨by first | omega | exact Nat.le_refl _⟩,⟨by exact kq BK208.out⟩,⟨by repeat (first | (with_reducible first | exact HB.out | apply ba | apply bn | apply bd | refine tb_ ?_ GE208.out) | exact HB.out)⟩⟩
 case rest=>
  clear HC2
  try clear p2
  try clear c3
  try clear c5
  try clear p6
  try clear c7
  try clear c9
  try clear hcz10_0
  try clear hcz10_1
  try clear hcz10_2
  try clear hcz10_3
  try clear hcz10_4
  try clear hcz10_5
  try clear hcz11_0
  try clear hcz11_1
  try clear hcz11_2
  try clear hcz11_3
  try clear hcz11_4
  try clear hcz11_5
  try clear hcz12_0
  try clear hcz12_1
  try clear hcz12_2
  try clear hcz12_3
  try clear hcz12_4
  try clear hcz12_5
  try clear hcz13_0
  try clear hcz13_1
  try clear hcz13_2
  try clear hcz13_3
  try clear hcz13_4
  try clear hcz13_5
  try clear hfz10_0
  try clear hfz10_1
  try clear hfz10_2
  try clear hfz10_3
  try clear hfz10_4
  try clear hfz10_5
  try clear hfz11_0
  try clear hfz11_1
  try clear hfz11_2
  try clear hfz11_3
  try clear hfz11_4
  try clear hfz11_5
  try clear hfz12_0
  try clear hfz12_1
  try clear hfz12_2
  try clear hfz12_3
  try clear hfz12_4
  try clear hfz12_5
  try clear hfz13_0
  try clear hfz13_1
  try clear hfz13_2
  try clear hfz13_3
  try clear hfz13_4
  try clear hfz13_5
  obtain ⟨kq,x29_1,rfl,HA,HJ1,BK208,HB⟩:=hcut
  cases kq with
  | zero=>exact absurd HA.out (by simp [althingref5_Is.j0])
  | succ kj1=>
    have H:=HA.out;clear HA;simp only [althingref5_Is.j0] at H
    by_cases c14 : x29_1 = true
    ·subst c14
     have H1 : (some false) = some r:=by rw [if_pos rfl] at H;exact H
     clear H;have H:=H1;clear H1;obtain rfl:=Option.some.inj H
     go_wp2
     go_ret
     exact ⟨by first | rfl | (simp [errW_none,errW_some] <;> rfl) | (simp [*,errW_none,errW_some] <;> rfl),by repeat (first | (with_reducible first | exact HB.out | apply ba | apply bn | apply bd | refine tb_ ?_ GE208.out) | exact HB.out)⟩
    replace c14:=Bool.eq_false_iff.mpr c14;subst c14
    have H1 : (if a0_0 = 1 then ((althingref5_in.f a0_2 0 6).bind fun t212=>(if t212 = true then (if a0_4 = 0 then (some (a0_5 == 0)) else (some false)) else (some false))) else (if a0_0 = 2 then (if a0_1 = true then (some false) else (if a0_2 = 0 then (some (a0_5 == 0)) else (some false))) else (if a0_0 = 3 then (if a0_1 = true then (some false) else (some (a0_2 == 0))) else (some false)))) = some r:=by rw [if_neg (show ¬ (false = true) by decide)] at H;exact H
    clear H;have H:=H1;clear H1
    by_cases c15 : a0_0 = 1
    ·rw [if_pos c15] at H;have c15b0 : (a0_0 == 1) = true:=beq_iff_eq.mpr c15;have c15b1 : (a0_0 != 1) = false:=bne_eq_false_iff_eq.mpr c15;clear c15;replace H:=Option.bind_eq_some_iff.mp H;obtain ⟨t212,A160,H⟩:=H;replace H : (if t212 = true then (if a0_4 = 0 then (some (a0_5 == 0)) else (some false)) else (some false)) = some r:=H;have A16:=am A160;clear A160
     by_cases c17 : t212 = true
     rotate_left
     ·replace c17:=Bool.eq_false_iff.mpr c17;subst c17
      have H1 : (some false) = some r:=by rw [if_neg (show ¬ (false = true) by decide)] at H;exact H
      clear H;have H:=H1;clear H1;obtain rfl:=Option.some.inj H;have hcz21_0 : wc.cell? ⟨gb208,0,none⟩ = some (.int .i64 a0_0):=(blk_cell BK208.out 0).trans rfl;have hcz21_1 : wc.cell? ⟨gb208,1,none⟩ = some (.bool a0_1):=(blk_cell BK208.out 1).trans rfl;have hcz21_2 : wc.cell? ⟨gb208,2,none⟩ = some (.int .i64 a0_2):=(blk_cell BK208.out 2).trans rfl;have hcz21_3 : wc.cell? ⟨gb208,3,none⟩ = some (.int .i64 a0_3):=(blk_cell BK208.out 3).trans rfl;have hcz21_4 : wc.cell? ⟨gb208,4,none⟩ = some (.int .i64 a0_4):=(blk_cell BK208.out 4).trans rfl;have hcz21_5 : wc.cell? ⟨gb208,5,none⟩ = some (.int .i64 a0_5):=(blk_cell BK208.out 5).trans rfl;have hfz21_0:=blk_frozen BK208.out 0;have hfz21_1:=blk_frozen BK208.out 1;have hfz21_2:=blk_frozen BK208.out 2;have hfz21_3:=blk_frozen BK208.out 3;have hfz21_4:=blk_frozen BK208.out 4;have hfz21_5:=blk_frozen BK208.out 5
      go_wp2_with (first | ((with_reducible refine gate_callee (f:=55) rfl ?_);refine gl (some 36) Try.func55 #[.int .i64 a0_2,.int .i64 0,.int .i64 6] ?_;(with_reducible refine (althingref5_in.calls a0_2 0 6 false _ A16.out).mono ?_);rintro e w' ⟨rfl,⟨nd,rfl⟩⟩;refine ⟨_,rfl,?_⟩))
      go_ret
      exact ⟨by first | rfl | (simp [errW_none,errW_some] <;> rfl) | (simp [*,errW_none,errW_some] <;> rfl),by repeat (first | (with_reducible first | exact HB.out | apply ba | apply bn | apply bd | refine tb_ ?_ GE208.out) | exact HB.out)⟩
     subst c17
     have H1 : (if a0_4 = 0 then (some (a0_5 == 0)) else (some false)) = some r:=by rw [if_pos rfl] at H;exact H
     clear H;have H:=H1;clear H1
     by_cases c18 : a0_4 = 0
     rotate_left
     ·rw [if_neg c18] at H;have c18b0 : (a0_4 == 0) = false:=beq_eq_false_iff_ne.mpr c18;have c18b1 : (a0_4 != 0) = true:=bne_iff_ne.mpr c18;obtain rfl:=Option.some.inj H;have hcz20_0 : wc.cell? ⟨gb208,0,none⟩ = some (.int .i64 a0_0):=(blk_cell BK208.out 0).trans rfl;have hcz20_1 : wc.cell? ⟨gb208,1,none⟩ = some (.bool a0_1):=(blk_cell BK208.out 1).trans rfl;have hcz20_2 : wc.cell? ⟨gb208,2,none⟩ = some (.int .i64 a0_2):=(blk_cell BK208.out 2).trans rfl;have hcz20_3 : wc.cell? ⟨gb208,3,none⟩ = some (.int .i64 a0_3):=(blk_cell BK208.out 3).trans rfl;have hcz20_4 : wc.cell? ⟨gb208,4,none⟩ = some (.int .i64 a0_4):=(blk_cell BK208.out 4).trans rfl;have hcz20_5 : wc.cell? ⟨gb208,5,none⟩ = some (.int .i64 a0_5):=(blk_cell BK208.out 5).trans rfl;have hfz20_0:=blk_frozen BK208.out 0;have hfz20_1:=blk_frozen BK208.out 1;have hfz20_2:=blk_frozen BK208.out 2;have hfz20_3:=blk_frozen BK208.out 3;have hfz20_4:=blk_frozen BK208.out 4;have hfz20_5:=blk_frozen BK208.out 5
      go_wp2_with (first | ((with_reducible refine gate_callee (f:=55) rfl ?_);refine gl (some 36) Try.func55 #[.int .i64 a0_2,.int .i64 0,.int .i64 6] ?_;(with_reducible refine (althingref5_in.calls a0_2 0 6 true _ A16.out).mono ?_);rintro e w' ⟨rfl,⟨nd,rfl⟩⟩;refine ⟨_,rfl,?_⟩))
      go_ret
      exact ⟨by first | rfl | (simp [errW_none,errW_some] <;> rfl) | (simp [*,errW_none,errW_some] <;> rfl),by repeat (first | (with_reducible first | exact HB.out | apply ba | apply bn | apply bd | refine tb_ ?_ GE208.out) | exact HB.out)⟩
     rw [if_pos c18] at H;have c18b0 : (a0_4 == 0) = true:=beq_iff_eq.mpr c18;have c18b1 : (a0_4 != 0) = false:=bne_eq_false_iff_eq.mpr c18;clear c18;obtain rfl:=Option.some.inj H;have hcz19_0 : wc.cell? ⟨gb208,0,none⟩ = some (.int .i64 a0_0):=(blk_cell BK208.out 0).trans rfl;have hcz19_1 : wc.cell? ⟨gb208,1,none⟩ = some (.bool a0_1):=(blk_cell BK208.out 1).trans rfl;have hcz19_2 : wc.cell? ⟨gb208,2,none⟩ = some (.int .i64 a0_2):=(blk_cell BK208.out 2).trans rfl;have hcz19_3 : wc.cell? ⟨gb208,3,none⟩ = some (.int .i64 a0_3):=(blk_cell BK208.out 3).trans rfl;have hcz19_4 : wc.cell? ⟨gb208,4,none⟩ = some (.int .i64 a0_4):=(blk_cell BK208.out 4).trans rfl;have hcz19_5 : wc.cell? ⟨gb208,5,none⟩ = some (.int .i64 a0_5):=(blk_cell BK208.out 5).trans rfl;have hfz19_0:=blk_frozen BK208.out 0;have hfz19_1:=blk_frozen BK208.out 1;have hfz19_2:=blk_frozen BK208.out 2;have hfz19_3:=blk_frozen BK208.out 3;have hfz19_4:=blk_frozen BK208.out 4;have hfz19_5:=blk_frozen BK208.out 5
     go_wp2_with (first | ((with_reducible refine gate_callee (f:=55) rfl ?_);refine gl (some 36) Try.func55 #[.int .i64 a0_2,.int .i64 0,.int .i64 6] ?_;(with_reducible refine (althingref5_in.calls a0_2 0 6 true _ A16.out).mono ?_);rintro e w' ⟨rfl,⟨nd,rfl⟩⟩;refine ⟨_,rfl,?_⟩))
     go_ret
     exact ⟨by first | rfl | (simp [errW_none,errW_some] <;> rfl) | (simp [*,errW_none,errW_some] <;> rfl),by repeat (first | (with_reducible first | exact HB.out | apply ba | apply bn | apply bd | refine tb_ ?_ GE208.out) | exact HB.out)⟩
    rw [if_neg c15] at H;have c15b0 : (a0_0 == 1) = false:=beq_eq_false_iff_ne.mpr c15;have c15b1 : (a0_0 != 1) = true:=bne_iff_ne.mpr c15
    by_cases c22 : a0_0 = 2
    rotate_left
    ·rw [if_neg c22] at H;have c22b0 : (a0_0 == 2) = false:=beq_eq_false_iff_ne.mpr c22;have c22b1 : (a0_0 != 2) = true:=bne_iff_ne.mpr c22
     by_cases c28 : a0_0 = 3
     rotate_left
     ·rw [if_neg c28] at H;have c28b0 : (a0_0 == 3) = false:=beq_eq_false_iff_ne.mpr c28;have c28b1 : (a0_0 != 3) = true:=bne_iff_ne.mpr c28;obtain rfl:=Option.some.inj H;have hcz32_0 : wc.cell? ⟨gb208,0,none⟩ = some (.int .i64 a0_0):=(blk_cell BK208.out 0).trans rfl;have hcz32_1 : wc.cell? ⟨gb208,1,none⟩ = some (.bool a0_1):=(blk_cell BK208.out 1).trans rfl;have hcz32_2 : wc.cell? ⟨gb208,2,none⟩ = some (.int .i64 a0_2):=(blk_cell BK208.out 2).trans rfl;have hcz32_3 : wc.cell? ⟨gb208,3,none⟩ = some (.int .i64 a0_3):=(blk_cell BK208.out 3).trans rfl;have hcz32_4 : wc.cell? ⟨gb208,4,none⟩ = some (.int .i64 a0_4):=(blk_cell BK208.out 4).trans rfl;have hcz32_5 : wc.cell? ⟨gb208,5,none⟩ = some (.int .i64 a0_5):=(blk_cell BK208.out 5).trans rfl;have hfz32_0:=blk_frozen BK208.out 0;have hfz32_1:=blk_frozen BK208.out 1;have hfz32_2:=blk_frozen BK208.out 2;have hfz32_3:=blk_frozen BK208.out 3;have hfz32_4:=blk_frozen BK208.out 4;have hfz32_5:=blk_frozen BK208.out 5
      go_wp2
      go_ret
      exact ⟨by first | rfl | (simp [errW_none,errW_some] <;> rfl) | (simp [*,errW_none,errW_some] <;> rfl),by repeat (first | (with_reducible first | exact HB.out | apply ba | apply bn | apply bd | refine tb_ ?_ GE208.out) | exact HB.out)⟩
     rw [if_pos c28] at H;have c28b0 : (a0_0 == 3) = true:=beq_iff_eq.mpr c28;have c28b1 : (a0_0 != 3) = false:=bne_eq_false_iff_eq.mpr c28;clear c28
     by_cases c29 : a0_1 = true
     ·subst c29
      have H1 : (some false) = some r:=by rw [if_pos rfl] at H;exact H
      clear H;have H:=H1;clear H1;obtain rfl:=Option.some.inj H;have hcz30_0 : wc.cell? ⟨gb208,0,none⟩ = some (.int .i64 a0_0):=(blk_cell BK208.out 0).trans rfl;have hcz30_1 : wc.cell? ⟨gb208,1,none⟩ = some (.bool true):=(blk_cell BK208.out 1).trans rfl;have hcz30_2 : wc.cell? ⟨gb208,2,none⟩ = some (.int .i64 a0_2):=(blk_cell BK208.out 2).trans rfl;have hcz30_3 : wc.cell? ⟨gb208,3,none⟩ = some (.int .i64 a0_3):=(blk_cell BK208.out 3).trans rfl;have hcz30_4 : wc.cell? ⟨gb208,4,none⟩ = some (.int .i64 a0_4):=(blk_cell BK208.out 4).trans rfl;have hcz30_5 : wc.cell? ⟨gb208,5,none⟩ = some (.int .i64 a0_5):=(blk_cell BK208.out 5).trans rfl;have hfz30_0:=blk_frozen BK208.out 0;have hfz30_1:=blk_frozen BK208.out 1;have hfz30_2:=blk_frozen BK208.out 2;have hfz30_3:=blk_frozen BK208.out 3;have hfz30_4:=blk_frozen BK208.out 4;have hfz30_5:=blk_frozen BK208.out 5
      go_wp2
      go_ret
      exact ⟨by first | rfl | (simp [errW_none,errW_some] <;> rfl) | (simp [*,errW_none,errW_some] <;> rfl),by repeat (first | (with_reducible first | exact HB.out | apply ba | apply bn | apply bd | refine tb_ ?_ GE208.out) | exact HB.out)⟩
     replace c29:=Bool.eq_false_iff.mpr c29;subst c29
     have H1 : (some (a0_2 == 0)) = some r:=by rw [if_neg (show ¬ (false = true) by decide)] at H;exact H
     clear H;have H:=H1;clear H1;obtain rfl:=Option.some.inj H;have hcz31_0 : wc.cell? ⟨gb208,0,none⟩ = some (.int .i64 a0_0):=(blk_cell BK208.out 0).trans rfl;have hcz31_1 : wc.cell? ⟨gb208,1,none⟩ = some (.bool false):=(blk_cell BK208.out 1).trans rfl;have hcz31_2 : wc.cell? ⟨gb208,2,none⟩ = some (.int .i64 a0_2):=(blk_cell BK208.out 2).trans rfl;have hcz31_3 : wc.cell? ⟨gb208,3,none⟩ = some (.int .i64 a0_3):=(blk_cell BK208.out 3).trans rfl;have hcz31_4 : wc.cell? ⟨gb208,4,none⟩ = some (.int .i64 a0_4):=(blk_cell BK208.out 4).trans rfl;have hcz31_5 : wc.cell? ⟨gb208,5,none⟩ = some (.int .i64 a0_5):=(blk_cell BK208.out 5).trans rfl;have hfz31_0:=blk_frozen BK208.out 0;have hfz31_1:=blk_frozen BK208.out 1;have hfz31_2:=blk_frozen BK208.out 2;have hfz31_3:=blk_frozen BK208.out 3;have hfz31_4:=blk_frozen BK208.out 4;have hfz31_5:=blk_frozen BK208.out 5
     go_wp2
     go_ret
     exact ⟨by first | rfl | (simp [errW_none,errW_some] <;> rfl) | (simp [*,errW_none,errW_some] <;> rfl),by repeat (first | (with_reducible first | exact HB.out | apply ba | apply bn | apply bd | refine tb_ ?_ GE208.out) | exact HB.out)⟩
    rw [if_pos c22] at H;have c22b0 : (a0_0 == 2) = true:=beq_iff_eq.mpr c22;have c22b1 : (a0_0 != 2) = false:=bne_eq_false_iff_eq.mpr c22;clear c22
    by_cases c23 : a0_1 = true
    ·subst c23
     have H1 : (some false) = some r:=by rw [if_pos rfl] at H;exact H
     clear H;have H:=H1;clear H1;obtain rfl:=Option.some.inj H;have hcz24_0 : wc.cell? ⟨gb208,0,none⟩ = some (.int .i64 a0_0):=(blk_cell BK208.out 0).trans rfl;have hcz24_1 : wc.cell? ⟨gb208,1,none⟩ = some (.bool true):=(blk_cell BK208.out 1).trans rfl;have hcz24_2 : wc.cell? ⟨gb208,2,none⟩ = some (.int .i64 a0_2):=(blk_cell BK208.out 2).trans rfl;have hcz24_3 : wc.cell? ⟨gb208,3,none⟩ = some (.int .i64 a0_3):=(blk_cell BK208.out 3).trans rfl;have hcz24_4 : wc.cell? ⟨gb208,4,none⟩ = some (.int .i64 a0_4):=(blk_cell BK208.out 4).trans rfl;have hcz24_5 : wc.cell? ⟨gb208,5,none⟩ = some (.int .i64 a0_5):=(blk_cell BK208.out 5).trans rfl;have hfz24_0:=blk_frozen BK208.out 0;have hfz24_1:=blk_frozen BK208.out 1;have hfz24_2:=blk_frozen BK208.out 2;have hfz24_3:=blk_frozen BK208.out 3;have hfz24_4:=blk_frozen BK208.out 4;have hfz24_5:=blk_frozen BK208.out 5
     go_wp2
     go_ret
     exact ⟨by first | rfl | (simp [errW_none,errW_some] <;> rfl) | (simp [*,errW_none,errW_some] <;> rfl),by repeat (first | (with_reducible first | exact HB.out | apply ba | apply bn | apply bd | refine tb_ ?_ GE208.out) | exact HB.out)⟩
    replace c23:=Bool.eq_false_iff.mpr c23;subst c23
    have H1 : (if a0_2 = 0 then (some (a0_5 == 0)) else (some false)) = some r:=by rw [if_neg (show ¬ (false = true) by decide)] at H;exact H
    clear H;have H:=H1;clear H1
    by_cases c25 : a0_2 = 0
    rotate_left
    ·rw [if_neg c25] at H;have c25b0 : (a0_2 == 0) = false:=beq_eq_false_iff_ne.mpr c25;have c25b1 : (a0_2 != 0) = true:=bne_iff_ne.mpr c25;obtain rfl:=Option.some.inj H;have hcz27_0 : wc.cell? ⟨gb208,0,none⟩ = some (.int .i64 a0_0):=(blk_cell BK208.out 0).trans rfl;have hcz27_1 : wc.cell? ⟨gb208,1,none⟩ = some (.bool false):=(blk_cell BK208.out 1).trans rfl;have hcz27_2 : wc.cell? ⟨gb208,2,none⟩ = some (.int .i64 a0_2):=(blk_cell BK208.out 2).trans rfl;have hcz27_3 : wc.cell? ⟨gb208,3,none⟩ = some (.int .i64 a0_3):=(blk_cell BK208.out 3).trans rfl;have hcz27_4 : wc.cell? ⟨gb208,4,none⟩ = some (.int .i64 a0_4):=(blk_cell BK208.out 4).trans rfl;have hcz27_5 : wc.cell? ⟨gb208,5,none⟩ = some (.int .i64 a0_5):=(blk_cell BK208.out 5).trans rfl;have hfz27_0:=blk_frozen BK208.out 0;have hfz27_1:=blk_frozen BK208.out 1;have hfz27_2:=blk_frozen BK208.out 2;have hfz27_3:=blk_frozen BK208.out 3;have hfz27_4:=blk_frozen BK208.out 4;have hfz27_5:=blk_frozen BK208.out 5
     go_wp2
     go_ret
     exact ⟨by first | rfl | (simp [errW_none,errW_some] <;> rfl) | (simp [*,errW_none,errW_some] <;> rfl),by repeat (first | (with_reducible first | exact HB.out | apply ba | apply bn | apply bd | refine tb_ ?_ GE208.out) | exact HB.out)⟩
    rw [if_pos c25] at H;have c25b0 : (a0_2 == 0) = true:=beq_iff_eq.mpr c25;have c25b1 : (a0_2 != 0) = false:=bne_eq_false_iff_eq.mpr c25;clear c25;obtain rfl:=Option.some.inj H;have hcz26_0 : wc.cell? ⟨gb208,0,none⟩ = some (.int .i64 a0_0):=(blk_cell BK208.out 0).trans rfl;have hcz26_1 : wc.cell? ⟨gb208,1,none⟩ = some (.bool false):=(blk_cell BK208.out 1).trans rfl;have hcz26_2 : wc.cell? ⟨gb208,2,none⟩ = some (.int .i64 a0_2):=(blk_cell BK208.out 2).trans rfl;have hcz26_3 : wc.cell? ⟨gb208,3,none⟩ = some (.int .i64 a0_3):=(blk_cell BK208.out 3).trans rfl;have hcz26_4 : wc.cell? ⟨gb208,4,none⟩ = some (.int .i64 a0_4):=(blk_cell BK208.out 4).trans rfl;have hcz26_5 : wc.cell? ⟨gb208,5,none⟩ = some (.int .i64 a0_5):=(blk_cell BK208.out 5).trans rfl;have hfz26_0:=blk_frozen BK208.out 0;have hfz26_1:=blk_frozen BK208.out 1;have hfz26_2:=blk_frozen BK208.out 2;have hfz26_3:=blk_frozen BK208.out 3;have hfz26_4:=blk_frozen BK208.out 4;have hfz26_5:=blk_frozen BK208.out 5
    go_wp2
    go_ret
    exact ⟨by first | rfl | (simp [errW_none,errW_some] <;> rfl) | (simp [*,errW_none,errW_some] <;> rfl),by repeat (first | (with_reducible first | exact HB.out | apply ba | apply bn | apply bd | refine tb_ ?_ GE208.out) | exact HB.out)⟩
-- NOT PRINTED: function 13 (althingref7_IsExt)
-- NOT PRINTED: function 4 (althinglaw7_CodeFields)
/-! ### althingref1_low: function 58 -/
def althingref1_low.l0 : Nat → Int → Int → List Int → Int → Option (List Int)
 | 0,_,_,_,_=>none
 | k + 1,x0,x1,x5,x6=>if x6 < x1 then (if 0 ≤ (IntKind.u64.wrap (wrap64 (8 * x6))) then (if x5.length < 140737488355328 then (althingref1_low.l0 k x0 x1 (x5 ++ [(shr .i64 x0 (IntKind.u64.wrap (wrap64 (8 * x6)))) % 256]) (wrap64 (x6 + 1))) else (none)) else (none)) else (some x5)
def althingref1_low.f (k : Nat) (a0 : Int) (a1 : Int) : Option (List Int):=althingref1_low.l0 k a0 a1 ([] : List Int) 0
set_option maxHeartbeats 8000000 in
set_option maxRecDepth 100000 in
theorem althingref1_low.calls (k : Nat) (a0 : Int) (a1 : Int) (r : List Int) (w : World) (h : althingref1_low.f k a0 a1 = some r) :
 Calls Try.prog 58 #[.int .i64 a0,.int .i64 a1] w fun e w'=>∃ v0_ : Value,e = .returned (v0_) ∧ Kd.R (Kd.int .u8) 5 w' w.heap.size (fun _=>True) v0_ r ∧ Below w.heap.size w w':=by
 have HB:=am (Below.refl w.heap.size w);have H : (althingref1_low.l0 k a0 a1 ([] : List Int) 0) = some r:=h;clear h;have H':=am H;clear H;go_enter Try.func58,Try.ntmps58
 go_wp2
 go_loopg [5,6] k (fun kq v5 v6 w'=>∃ (x5_1 : List Int) (x6_1 : Int),v6 = .int .i64 x6_1 ∧ Aside0 (althingref1_low.l0 kq a0 a1 x5_1 x6_1 = some r) ∧ Aside0 (kq ≤ k) ∧ Aside0 (Kd.R (Kd.int .u8) 5 w' w.heap.size (fun _=>True) v5 x5_1) ∧ Aside0 (Below w.heap.size w w'))
 case atStart=>exact ⟨(([] : List Int)),(0),(by first | rfl | (simp;done) | (simp [*];done)),H',⟨Nat.le_refl _⟩,⟨by first | exact Kd.R_nil _ _ _ _ _ | exact Kd.N_nil _ _ _ _ _ | exact Kd.V_nil _ _ _ _ _ | exact Kd.Q_nil _ _ _ _ _ | exact Kd.S_nil _ _ _ _ _⟩,⟨by exact bq HB.out⟩⟩
 case round=>
  clear H'
  try clear p2
  obtain ⟨x5_1,x6_1,rfl,HA,HK1,HO_5,HB⟩:=hrel
  cases gk with
  | zero=>exact absurd HA.out (by simp [althingref1_low.l0])
  | succ k1=>
    have H:=HA.out;clear HA;simp only [althingref1_low.l0] at H
    by_cases c3 : x6_1 < a1
    rotate_left
    ·rw [if_neg c3] at H;have c3b0 : decide (x6_1 < a1) = false:=decide_eq_false c3;clear c3;obtain rfl:=Option.some.inj H
     go_wp2
     go_ret
     exact ⟨_,by first | rfl | (simp [errW_none,errW_some] <;> rfl) | (simp [*,errW_none,errW_some] <;> rfl),by exact dq HO_5.out,by exact bq HB.out⟩
    rw [if_pos c3] at H;have c3b0 : decide (x6_1 < a1) = true:=decide_eq_true c3;clear c3;obtain ⟨ji4,hji4⟩ : ∃ j_ : Int,(IntKind.u64.wrap (wrap64 (8 * x6_1))) = j_:=⟨_,rfl⟩
    replace H : (if 0 ≤ (ji4) then (if x5_1.length < 140737488355328 then (althingref1_low.l0 k1 a0 a1 (x5_1 ++ [(shr .i64 a0 (ji4)) % 256]) (wrap64 (x6_1 + 1))) else (none)) else (none)) = some r:=by first | (rw [hji4] at H;exact H) | (simp only [hji4] at H ⊢;exact H)
    by_cases c5 : 0 ≤ (ji4)
    rotate_left
    ·rw [if_neg c5] at H;exact absurd H (by simp)
    rw [if_pos c5] at H;have c5b0:=eq_true c5;have c5b1 : decide (0 ≤ (ji4)) = true:=decide_eq_true c5;clear c5;obtain ⟨ji6,hji6⟩ : ∃ j_ : Int,(shr .i64 a0 (ji4)) = j_:=⟨_,rfl⟩
    replace H : (if x5_1.length < 140737488355328 then (althingref1_low.l0 k1 a0 a1 (x5_1 ++ [(ji6) % 256]) (wrap64 (x6_1 + 1))) else (none)) = some r:=by first | (rw [hji6] at H;exact H) | (simp only [hji6] at H ⊢;exact H)
    have hji6_ : (a0 / 2 ^ min (ji4).toNat 64) = ji6:=hji6;have hji6z : (ji4) ≤ 64 → (a0 / 2 ^ (ji4).toNat) = ji6:=shr_small hji6
    by_cases c7 : x5_1.length < 140737488355328
    rotate_left
    ·rw [if_neg c7] at H;exact absurd H (by simp)
    rw [if_pos c7] at H;have LMc7:=am c7;clear c7;obtain ⟨y213,hy213⟩ : ∃ y_ : List Int,y_ = (x5_1 ++ [(ji6) % 256]):=⟨_,rfl⟩
    replace H : (althingref1_low.l0 k1 a0 a1 y213 (wrap64 (x6_1 + 1))) = some r:=by first | (rw [hy213];with_reducible exact H) | (have H2_:=(Option.bind_some _ _).symm.trans H;rw [hy213];with_reducible exact H2_) | (have H2_:=(Option.bind_some _ _).symm.trans H;with_reducible exact H2_) | with_reducible exact H | (rw [hy213];exact H) | exact H
    have Ny213:=am hy213;clear hy213;have H':=am H;clear H
    go_wp2_with (first | ((with_reducible refine gate_builtin (b:= .append) (xs:=#[.tmp 12,.tmp 19]) rfl ?_);at_builtin;refine Kd.R_append (Kd.int .u8) (w0:=w) w.heap.size rfl (.tmp 12) (.tmp 19) 38 5 (.int .u8 0) 1 rfl Try.underlying38 info5 rfl (by decide) (by omega) u5 x5_1 ((ji6) % 256) [.int .u8 ((ji6) % 256)] (fun _=>True) (fun _=>False) rfl rfl ?aP (fun _ hk=>hk.elim) ?aF ?aO ?aB ?aS ?aL ?_;(case aP=>exact rfl);(case aB=>exact (by exact bq HB.out));(case aF=>exact (fun _ _=>trivial));(case aO=>exact (by exact dq HO_5.out));(case aS=>exact (below_size (by exact bq HB.out)));(case aL=>have:=LMc7.out;omega);intro v214 w8 ho hb hg hat;rw [← Ny213.out] at ho;have n0_:=am (hb);have n1_:=am (ho);clear HB;clear HO_5;have HB:=n0_;have HO215:=n1_;clear n0_ n1_;clear ho hb hg hat))
    go_roundg k1
    case measure=>have:=HK1.out;omega
    case rel=>exact ⟨(y213),(wrap64 (x6_1 + 1)),(by first | rfl | (simp;done) | (simp [*];done)),H',⟨by have:=HK1.out;omega⟩,⟨by exact dq HO215.out⟩,⟨by exact bq HB.out⟩⟩
end Go.Proofs.Ytilckocpgififaa.G
