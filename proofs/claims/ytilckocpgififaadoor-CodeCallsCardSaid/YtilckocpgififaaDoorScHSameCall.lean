/- The frame of a law whose row lists the variables that the program's text lays (strings.asciiSpace among them). -/
import Derived.Test.YtilckocpgififaaDoorScFrame
import Derived.Test.YtilckocpgififaaDoorScBMix
import Derived.Test.YtilckocpgififaaDoorScBBlock
import Derived.Test.YtilckocpgififaaDoorTie
import Derived.Test.YtilckocpgififaaDoorCards
import Derived.MakeChecks
import Derived.LaidMore
import Derived.Lay
import Derived.SevenTiedAt
import Derived.Stop.Joined
import Derived.Test.YtilckocpgififaaDoorScHStep
import Derived.IntWalk
import Derived.OneCell
namespace Go.Proofs.YtilckocpgififaaDoor.Frame
open Go.ChangeShapes Go.WideShapes Go.ChangeAt Go.RowKit Go.Proofs.YtilckocpgififaaDoor.G
variable {H : Type} {enc : TypeId × Value → H}
def laidL : List (String × DataW Unit):=[("unicode.White_Space",Rows.laid_unicode_White_Space),("strings.asciiSpace",Rows.laid_strings_asciiSpace)]
def spZ : List Int:=(List.range 256).map fun i=>if i = 9 ∨ i = 10 ∨ i = 11 ∨ i = 12 ∨ i = 13 ∨ i = 32 then 1 else 0
theorem spZ_is : (Rows.laid_strings_asciiSpace : DataW Unit) = .agg (spZ.map fun n=> .lit (.int .u8 n)):=by kernel_rfl
theorem space_cell {W : World} (h : laidMetH Tryd.prog laidL W) (r : Nat) (hr : r < 256) : W.cell? ⟨0,r,none⟩ = some (.int .u8 (spZ.getD r 0)):=by
 rw [MakeChecks.laidMetH_plain _ _ _ (by kernel_rfl)] at h;obtain ⟨ps,⟨_,_,_,_,_,_,_,_,_,_,⟨g,t,cs,fuel,p,q,hg,ht,hv,hd,_,_⟩,_⟩,_,_⟩:=h;obtain rfl:=Option.some.inj ((show Tryd.prog.globalNamed "strings.asciiSpace" = some 0 by kernel_rfl).symm.trans hg);obtain rfl:=Option.some.inj ((show (Tryd.prog.globals[0]?).map (·.type) = some 114 by kernel_rfl).symm.trans ht);rw [spZ_is] at hd;obtain ⟨xs,m,_,ex,_,hl,hel⟩:=DataW.trod_array Tryd.underlying114 hd
 have c5 : Tryd.prog.cellsOf 5 = 1:=by kernel_rfl
 have hE:=hel r hr;rw [c5,Nat.mul_one,List.getElem?_eq_getElem (by omega)] at hE;obtain ⟨z,e1,e2,_⟩:=DataW.trod_int Tryd.underlying5 hE
 have hlen : spZ.length = 256:=by kernel_rfl
 have e3 : (xs.map (·.1)) = spZ.map fun n=> .lit (.int .u8 n):=(DataW.agg.inj (Prod.mk.inj ex).1).symm
 have e4 : (xs.map (·.1))[r]? = (spZ.map fun n=>(DataW.lit (.int .u8 n) : DataW Unit))[r]? :=by rw [e3]
 rw [List.getElem?_map,List.getElem?_map,List.getElem?_eq_getElem (by omega : r < xs.length),List.getElem?_eq_getElem (by omega : r < spZ.length),e2] at e4
 have hz : z = spZ.getD r 0:=by
  simp only [Option.map_some,Option.some.injEq,DataW.lit.injEq,Lit.int.injEq,true_and] at e4;rw [e4,List.getD,List.getElem?_eq_getElem (by omega : r < spZ.length)];rfl
 rw [World.var?_cell hg hv r,← hz]
 have : cs.toList[r]? = some (.int .u8 z):=by
  have h0 : ((cs.toList.drop r).take 1)[0]? = some (.int .u8 z):=by rw [e1];rfl
  simpa using h0
 simpa using this
theorem spaces_of {W : World} (h : laidMetH Tryd.prog laidL W) : Spaces W:=by
 refine ⟨fun b hb=>?_,space_cell h 32 (by decide)⟩;have e:=space_cell h b.toNat (by omega);rw [e]
 have : spZ.getD b.toNat 0 = 0:=by
  unfold spZ
  rw [List.getD_eq_getElem?_getD,List.getElem?_map,List.getElem?_range (by omega)];simp only [Option.map_some,Option.getD_some];rw [if_neg (by omega)]
 rw [this]
def WalksD (f : FuncId) (fn : Func) : Prop:=
 ∀ (H : Type) (enc : TypeId × Value → H) (W : World) (base : Nat) (args : Array Value) (ds : List (DataW H)) (ps : List MemPlace),Spaces W →
   (∀ (j : Nat) t v,fn.params[j]? = some t → args[j]? = some v → Value.okWide Tryd.prog W .any base t v) →
   DataW.TrodAll enc Tryd.prog W 0 (fun _=>true) true fn.params.toList args.toList ds ps →
   (∀ x ∈ ps,x.block < W.heap.size) → W.noneFrozen ps →
   (DataW.weightsEach Tryd.prog fn.params.toList ds).all (· ≤ reachBytes) = true →
   Calls Tryd.prog f args W fun e W'=>e = .returned (.bool true) ∧ Below W.heap.size W W'
set_option maxRecDepth 100000 in
theorem liftedD {f : FuncId} {fn : Func} {s : ChangeSpec} (hfn : Tryd.prog.funcs[f]? = some fn) (noInit : Tryd.prog.inits.idxOf? f = none)
 (hres : fn.resultTypes = #[4]) (hread : (fn.params.toList.all fun t=>Tryd.prog.readableRec t && decide (t < Tryd.prog.types.size)) = true)
 (hbool : Tryd.prog.underlying 4 = some .bool) (hv : s.vars = [])
 (hs : ∀ (H : Type) (ds : List (DataW H)),ds.length = fn.params.toList.length → s.fn H ds = { results:=[.lit (.bool true)],args:=ds })
 (os : Os) (started : os.Started) (H : Type) (enc : TypeId × Value → H)
 (witness : ∃ (w : World) (tape : Tape) (i : Input),w.os = os ∧ (w.forCall tape i).Shaped Tryd.checked.prog ∧ i.vars = [] ∧ Input.okWide Tryd.checked.prog (w.forCall tape i) .any w.heap.size f i ∧
   ((s.pre enc Tryd.checked.prog fn [] false (w.forCall tape i).memory i.args ∧ laidMetH Tryd.prog laidL (w.forCall tape i).memory) ∧ sizedMet enc Tryd.checked.prog fn (OpenSpec.ofChange s) false (w.forCall tape i).memory i.args) ∧ ({} : Assume).holds Tryd.checked.prog (lone (Frame.enter Tryd.checked.prog f i.args .normal) [] (w.forCall tape i)))
 (walk : WalksD f fn) :
 ReturnsInHanded {} Tryd.checked os f .any (fun w args=>(s.pre enc Tryd.prog fn [] false w args ∧ laidMetH Tryd.prog laidL w) ∧ sizedMet enc Tryd.prog fn (OpenSpec.ofChange s) false w args) (s.post enc Tryd.prog fn false true false false):=by
 refine returnsInHanded_of_change_and (C:=Tryd.checked) (X:=fun w _=>laidMetH Tryd.prog laidL w) (fun _ _ _ hh h=>h.of_heap hh) own started noInit hfn witness ?_;intro W base args ds gs before hval hW _ hsz0 hL _;have hW':=hW;obtain ⟨p,q,hA0,hV0,hpq,hfz,hnd⟩:=hW;have hA : DataW.TrodAll enc Tryd.prog W 0 (fun _=>true) true fn.params.toList args.toList ds p:=hA0;have hV : DataW.TrodVars enc Tryd.prog W (fun _=>true) s.vars gs q:=hV0;rw [hv] at hV;obtain ⟨rfl,rfl⟩ : gs = [] ∧ q = []:=trodVars_none hV;rw [List.append_nil] at hpq;subst hpq;have hlt : ∀ x ∈ before,x.block < W.heap.size:=hW'.lt
 have hsz : (DataW.weightsEach Tryd.prog fn.params.toList ds).all (· ≤ reachBytes) = true:=by
  have e : s.plain.varTypes Tryd.prog = []:=by simp [ChangeSpec.plain,DataSpec.varTypes,hv]
  have h2 : (DataW.weightsEach Tryd.prog (fn.params.toList ++ s.plain.varTypes Tryd.prog) (ds ++ [])).all (· ≤ reachBytes) = true:=hsz0;rw [e,List.append_nil,List.append_nil] at h2;exact h2
 refine (walk H enc W base args ds before (spaces_of hL) hval hA hlt hfz hsz).mono fun e W' ⟨he,bel⟩=>?_;subst he;have hlen:=(trodAll_length _ _ _ _ hA).1
 have hspec : s.fn H (ds ++ []) = { results:=[.lit (.bool true)],args:=ds }:=by rw [List.append_nil];exact hs H ds hlen
 refine ⟨_,rfl,ds,[],before,[],before,[],hW',?_,?_,?_,bel.frame _,fun h=>by cases h⟩
 ·rw [hspec,hres];exact trodAll_mk1 (shut_bool hbool true)
 ·rw [hspec];exact trodAll_below laid bel _ _ _ _ hread hA hlt
 ·rw [hspec,hv]
  rfl
end Go.Proofs.YtilckocpgififaaDoor.Frame
-- Laid by this session's own program gprint.py over the kit's print (given functions are proved by hand).
namespace Go.Proofs.YtilckocpgififaaDoor.G
open Go.RowKit Go.Proofs.YtilckocpgififaaDoorW.PrintWords Go.Proofs.YtilckocpgififaaDoorW.PrintLast Go.Proofs.YtilckocpgififaaDoorW.PrintMore
attribute [local go_sem] max2_int min2_int max_two min_two max_three min_three max_four min_four   -- for this text's walks alone
set_option linter.unusedVariables false
set_option linter.unusedSimpArgs false
/-! ### althinglaw7_size: function 5 -/
mutual
def althinglaw7_size.l0 : Nat → Int → Int → Int → Int → Int → List (S24) → Option (Int)
 | 0,_,_,_,_,_,_=>none
 | k + 1,x3,x4,x102000,x102001,x102002,x102003=>if x4 < (x102003.length : Int) then (if x3 < 300 then (if 0 ≤ x4 then ((althinglaw7_size.f k ((rd_T24 x102003 x4).f0) ((rd_T24 x102003 x4).f1) ((rd_T24 x102003 x4).f2) ((rd_T24 x102003 x4).f3)).bind fun t103=>(althinglaw7_size.l0 k (wrap64 (x3 + t103)) (wrap64 (x4 + 1)) x102000 x102001 x102002 x102003)) else (none)) else (some x3)) else (some x3)
def althinglaw7_size.f : Nat → Int → Int → Int → List (S24) → Option (Int)
 | 0,_,_,_,_=>none
 | k + 1,a0_0,a0_1,a0_2,l0_3=>althinglaw7_size.l0 k (wrap64 (1 + (l0_3.length : Int))) 0 a0_0 a0_1 a0_2 l0_3
end
theorem althinglaw7_size.mono_l : ∀ k,(∀ y0 y1 y2 y3,LeO (althinglaw7_size.f k y0 y1 y2 y3) (althinglaw7_size.f (k + 1) y0 y1 y2 y3)) ∧ (∀ y0 y1 y2 y3 y4 y5,LeO (althinglaw7_size.l0 k y0 y1 y2 y3 y4 y5) (althinglaw7_size.l0 (k + 1) y0 y1 y2 y3 y4 y5))
 | 0=>⟨fun _ _ _ _ r h=>by simp [althinglaw7_size.f] at h,fun _ _ _ _ _ _ r h=>by simp [althinglaw7_size.l0] at h⟩
 | k + 1=>by
   obtain ⟨ih0,ih1⟩:=althinglaw7_size.mono_l k;refine ⟨?_,?_⟩
   ·intro y0 y1 y2 y3
    unfold althinglaw7_size.f
    repeat' first
    | (with_reducible exact ih0 _ _ _ _)
    | (with_reducible exact ih1 _ _ _ _ _ _)
    | (with_reducible exact LeO.refl _)
    | (with_reducible exact LeO.none _)
    | (with_reducible refine LeO.ite ?_ ?_)
    | (with_reducible refine LeO.bind ?_ (fun _=>?_))
    | exact ih0 _ _ _ _
    | exact ih1 _ _ _ _ _ _
    | exact LeO.none _
    | refine LeO.ite ?_ ?_
    | refine LeO.bind ?_ (fun _=>?_)
   ·intro y0 y1 y2 y3 y4 y5
    unfold althinglaw7_size.l0
    repeat' first
    | (with_reducible exact ih0 _ _ _ _)
    | (with_reducible exact ih1 _ _ _ _ _ _)
    | (with_reducible exact LeO.refl _)
    | (with_reducible exact LeO.none _)
    | (with_reducible refine LeO.ite ?_ ?_)
    | (with_reducible refine LeO.bind ?_ (fun _=>?_))
    | exact ih0 _ _ _ _
    | exact ih1 _ _ _ _ _ _
    | exact LeO.none _
    | refine LeO.ite ?_ ?_
    | refine LeO.bind ?_ (fun _=>?_)
theorem althinglaw7_size.mono : ∀ a0 a1 a2 a3 k,LeO (althinglaw7_size.f k a0 a1 a2 a3) (althinglaw7_size.f (k + 1) a0 a1 a2 a3):=by
 intro a0 a1 a2 a3 k;obtain ⟨ih0,ih1⟩:=althinglaw7_size.mono_l k;exact ih0 a0 a1 a2 a3
set_option maxHeartbeats 8000000 in
set_option maxRecDepth 100000 in
theorem althinglaw7_size.calls (k : Nat) : ∀ (a0_0 : Int) (a0_1 : Int) (a0_2 : Int) (A0_3 : Option Addr) (c0_3 : Nat) (l0_3 : List (S24)) (r : Int) (w : World) (hr0_3 : Kd.C k24 w A0_3 l0_3.length l0_3) (hc0_3 : l0_3.length ≤ c0_3) (h : althinglaw7_size.f k a0_0 a0_1 a0_2 l0_3 = some r),
 Calls Tryd.prog 5 #[.agg #[.int .i64 a0_0,.int .i64 a0_1,.int .i64 a0_2,.slice A0_3 l0_3.length c0_3]] w fun e w'=>e = .returned (.int .i64 r) ∧ Below w.heap.size w w':=by
 induction k using Nat.strongRecOn with
 | _ k ih=>
 intro a0_0 a0_1 a0_2 A0_3 c0_3 l0_3 r w hr0_3 hc0_3 h
 cases k with
 | zero=>exact absurd h (by simp [althinglaw7_size.f])
 | succ k=>
 simp only [althinglaw7_size.f] at h;have hu24:=Tryd.underlying24;have HR0_3:=am hr0_3;have HC0_3:=am hc0_3;clear hr0_3 hc0_3;have HB:=am (Below.refl w.heap.size w);have H : (althinglaw7_size.l0 k (wrap64 (1 + (l0_3.length : Int))) 0 a0_0 a0_1 a0_2 l0_3) = some r:=h;clear h;have H':=am H;clear H;go_enter Tryd.func5,Tryd.ntmps5
 go_wp2_with (first | ((with_reducible refine gate_dst (N:=1) rfl ?_);refine box_event ?hg (N:=1) ?hd (cs:=#[.int .i64 a0_0,.int .i64 a0_1,.int .i64 a0_2,.slice A0_3 l0_3.length c0_3]) (t:=24) ?hr ?_;(case hd=>rfl);(case hg=>rfl);(case hr=>first | (go_simp;done) | (go_simp;rfl));intro gb101 hg w2 hbox hb;have n0_:=am (below_step (by exact bq HB.out) hb);have n1_:=am (hbox);have n2_:=am ((by rw [hg];exact (below_size (by exact bq HB.out)) : w.heap.size ≤ gb101));have n3_:=am ((by rw [hg];exact (below_size (by exact bq HB.out)) : w.heap.size ≤ gb101));clear HB;have HB:=n0_;have BK101:=n1_;have GW101:=n2_;have GE101:=n3_;clear n0_ n1_ n2_ n3_;clear hb hbox hg;have hcz3_0 : w2.cell? ⟨gb101,0,none⟩ = some (.int .i64 a0_0):=(blk_cell BK101.out 0).trans rfl;have hcz3_1 : w2.cell? ⟨gb101,1,none⟩ = some (.int .i64 a0_1):=(blk_cell BK101.out 1).trans rfl;have hcz3_2 : w2.cell? ⟨gb101,2,none⟩ = some (.int .i64 a0_2):=(blk_cell BK101.out 2).trans rfl;have hcz3_3 : w2.cell? ⟨gb101,3,none⟩ = some (.slice A0_3 l0_3.length c0_3):=(blk_cell BK101.out 3).trans rfl;have hfz3_0:=blk_frozen BK101.out 0;have hfz3_1:=blk_frozen BK101.out 1;have hfz3_2:=blk_frozen BK101.out 2;have hfz3_3:=blk_frozen BK101.out 3))
 go_loopg [3,4] k (fun kq v3 v4 w'=>∃ (x3_1 : Int) (x4_1 : Int),v3 = .int .i64 x3_1 ∧ v4 = .int .i64 x4_1 ∧ Aside0 (althinglaw7_size.l0 kq x3_1 x4_1 a0_0 a0_1 a0_2 l0_3 = some r) ∧ Aside0 (kq ≤ k) ∧ Aside0 (w'.heap[gb101]? = some (.cells #[.int .i64 a0_0,.int .i64 a0_1,.int .i64 a0_2,(.slice A0_3 l0_3.length c0_3)] 24 (0,0))) ∧ Aside0 (Below w.heap.size w w'))
 case atStart=>exact ⟨(wrap64 (1 + (l0_3.length : Int))),(0),(by first | rfl | (simp;done) | (simp [*];done)),(by first | rfl | (simp;done) | (simp [*];done)),H',⟨Nat.le_refl _⟩,⟨by exact kq BK101.out⟩,⟨by repeat (first | (with_reducible first | exact HB.out | apply ba | apply bn | apply bd | refine tb_ ?_ GE101.out) | exact HB.out)⟩⟩
 case round=>
  clear H'
  try clear p2
  try clear hcz3_0
  try clear hcz3_1
  try clear hcz3_2
  try clear hcz3_3
  try clear hfz3_0
  try clear hfz3_1
  try clear hfz3_2
  try clear hfz3_3
  obtain ⟨x3_1,x4_1,rfl,rfl,HA,HK1,BK101,HB⟩:=hrel
  cases gk with
  | zero=>exact absurd HA.out (by simp [althinglaw7_size.l0])
  | succ k1=>
    have H:=HA.out;clear HA;simp only [althinglaw7_size.l0] at H
    by_cases c4 : x4_1 < (l0_3.length : Int)
    rotate_left
    ·rw [if_neg c4] at H;have c4b0 : decide (x4_1 < (l0_3.length : Int)) = false:=decide_eq_false c4;clear c4;obtain rfl:=Option.some.inj H;have hcz11_0 : wr.cell? ⟨gb101,0,none⟩ = some (.int .i64 a0_0):=(blk_cell BK101.out 0).trans rfl;have hcz11_1 : wr.cell? ⟨gb101,1,none⟩ = some (.int .i64 a0_1):=(blk_cell BK101.out 1).trans rfl;have hcz11_2 : wr.cell? ⟨gb101,2,none⟩ = some (.int .i64 a0_2):=(blk_cell BK101.out 2).trans rfl;have hcz11_3 : wr.cell? ⟨gb101,3,none⟩ = some (.slice A0_3 l0_3.length c0_3):=(blk_cell BK101.out 3).trans rfl;have hfz11_0:=blk_frozen BK101.out 0;have hfz11_1:=blk_frozen BK101.out 1;have hfz11_2:=blk_frozen BK101.out 2;have hfz11_3:=blk_frozen BK101.out 3
     go_wp2
     go_ret
     exact ⟨by first | rfl | (simp [errW_none,errW_some] <;> rfl) | (simp [*,errW_none,errW_some] <;> rfl),by repeat (first | (with_reducible first | exact HB.out | apply ba | apply bn | apply bd | refine tb_ ?_ GE101.out) | exact HB.out)⟩
    rw [if_pos c4] at H;have c4b0 : decide (x4_1 < (l0_3.length : Int)) = true:=decide_eq_true c4;clear c4
    by_cases c5 : x3_1 < 300
    rotate_left
    ·rw [if_neg c5] at H;have c5b0 : decide (x3_1 < 300) = false:=decide_eq_false c5;clear c5;obtain rfl:=Option.some.inj H;have hcz10_0 : wr.cell? ⟨gb101,0,none⟩ = some (.int .i64 a0_0):=(blk_cell BK101.out 0).trans rfl;have hcz10_1 : wr.cell? ⟨gb101,1,none⟩ = some (.int .i64 a0_1):=(blk_cell BK101.out 1).trans rfl;have hcz10_2 : wr.cell? ⟨gb101,2,none⟩ = some (.int .i64 a0_2):=(blk_cell BK101.out 2).trans rfl;have hcz10_3 : wr.cell? ⟨gb101,3,none⟩ = some (.slice A0_3 l0_3.length c0_3):=(blk_cell BK101.out 3).trans rfl;have hfz10_0:=blk_frozen BK101.out 0;have hfz10_1:=blk_frozen BK101.out 1;have hfz10_2:=blk_frozen BK101.out 2;have hfz10_3:=blk_frozen BK101.out 3
     go_wp2
     go_ret
     exact ⟨by first | rfl | (simp [errW_none,errW_some] <;> rfl) | (simp [*,errW_none,errW_some] <;> rfl),by repeat (first | (with_reducible first | exact HB.out | apply ba | apply bn | apply bd | refine tb_ ?_ GE101.out) | exact HB.out)⟩
    rw [if_pos c5] at H;have c5b0 : decide (x3_1 < 300) = true:=decide_eq_true c5;clear c5
    by_cases c6 : 0 ≤ x4_1
    rotate_left
    ·rw [if_neg c6] at H;exact absurd H (by simp)
    rw [if_pos c6] at H;have c6b0 : decide (0 ≤ x4_1) = true:=decide_eq_true c6;clear c6;replace H:=Option.bind_eq_some_iff.mp H;obtain ⟨t103,A70,H⟩:=H;replace H : (althinglaw7_size.l0 k1 (wrap64 (x3_1 + t103)) (wrap64 (x4_1 + 1)) a0_0 a0_1 a0_2 l0_3) = some r:=H;have A7:=am A70;clear A70;have H':=am H;clear H;have hcz8_0 : wr.cell? ⟨gb101,0,none⟩ = some (.int .i64 a0_0):=(blk_cell BK101.out 0).trans rfl;have hcz8_1 : wr.cell? ⟨gb101,1,none⟩ = some (.int .i64 a0_1):=(blk_cell BK101.out 1).trans rfl;have hcz8_2 : wr.cell? ⟨gb101,2,none⟩ = some (.int .i64 a0_2):=(blk_cell BK101.out 2).trans rfl;have hcz8_3 : wr.cell? ⟨gb101,3,none⟩ = some (.slice A0_3 l0_3.length c0_3):=(blk_cell BK101.out 3).trans rfl;have hfz8_0:=blk_frozen BK101.out 0;have hfz8_1:=blk_frozen BK101.out 1;have hfz8_2:=blk_frozen BK101.out 2;have hfz8_3:=blk_frozen BK101.out 3;have p102 : 0 ≤ (x4_1 : Int):=of_decide_eq_true (by first | (with_reducible assumption) | assumption);have q102 : x4_1 < (l0_3.length : Int):=of_decide_eq_true (by first | (with_reducible assumption) | assumption);obtain ⟨ad102,A102_3,c102_3,e102,hx102_0,hx102_1,hx102_2,hx102_3,hl102_3,hi102_3⟩:=at_T24 HR0_3.out x4_1 p102 q102;cases e102;replace hx102_0:=(HB.out.cell (World.block_lt_of_cell? w _ hx102_0)).trans hx102_0;replace hx102_1:=(HB.out.cell (World.block_lt_of_cell? w _ hx102_1)).trans hx102_1;replace hx102_2:=(HB.out.cell (World.block_lt_of_cell? w _ hx102_2)).trans hx102_2;replace hx102_3:=(HB.out.cell (World.block_lt_of_cell? w _ hx102_3)).trans hx102_3;have HR102_3:=am hi102_3;have HC102_3:=am hl102_3;clear hi102_3 hl102_3;replace p102:=eq_true p102;replace q102:=eq_true q102
    go_wp2_with (first | ((with_reducible refine gate_callee (f:=5) rfl ?_);refine gl (some 26) Tryd.func5 #[.agg #[.int .i64 ((rd_T24 l0_3 x4_1).f0),.int .i64 ((rd_T24 l0_3 x4_1).f1),.int .i64 ((rd_T24 l0_3 x4_1).f2),.slice A102_3 ((rd_T24 l0_3 x4_1).f3).length c102_3]] ?_;(with_reducible refine (ih k1 (by have:=HK1.out;omega) ((rd_T24 l0_3 x4_1).f0) ((rd_T24 l0_3 x4_1).f1) ((rd_T24 l0_3 x4_1).f2) _ _ ((rd_T24 l0_3 x4_1).f3) t103 _ ?side1 ?side2 A7.out).mono ?_);(case side1=>repeat (first | exact (Kd.C_below HR102_3.out HB.out) | (with_reducible refine Kd.C_alloc ?_ _) | (with_reducible refine Kd.C_drewN ?_ _) | (with_reducible refine Kd.C_drew ?_)));(case side2=>exact HC102_3.out);rintro e w9 ⟨rfl,hb⟩;refine ⟨_,rfl,?_⟩;have n0_:=am (blk_below (g:=gb101) (o:= .cells #[.int .i64 a0_0,.int .i64 a0_1,.int .i64 a0_2,.slice (some ad102) l0_3.length c0_3] 24 (0,0)) (by exact kq BK101.out) hb);have n1_:=am (below_step (by repeat (first | (with_reducible first | exact HB.out | apply ba | apply bn | apply bd | refine tb_ ?_ GE101.out) | exact HB.out)) hb);clear BK101;clear HB;have BK101:=n0_;have HB:=n1_;clear n0_ n1_;(try clear hb);(try clear hb2);(try clear hk);(try clear hi)))
    go_roundg k1
    case measure=>have:=HK1.out;omega
    case rel=>exact ⟨(wrap64 (x3_1 + t103)),(wrap64 (x4_1 + 1)),(by first | rfl | (simp;done) | (simp [*];done)),(by first | rfl | (simp;done) | (simp [*];done)),H',⟨by have:=HK1.out;omega⟩,⟨by exact kq BK101.out⟩,⟨by repeat (first | (with_reducible first | exact HB.out | apply ba | apply bn | apply bd | refine tb_ ?_ GE101.out) | exact HB.out)⟩⟩
/-! ### code_isIn: function 33 -/
def code_isIn.f (a0 : Int) (a1 : Int) (a2 : Int) : Option (Bool):=if a0 ≥ a1 then (some (decide (a0 ≤ a2))) else (some false)
set_option maxHeartbeats 8000000 in
set_option maxRecDepth 100000 in
theorem code_isIn.calls (a0 : Int) (a1 : Int) (a2 : Int) (r : Bool) (w : World) (h : code_isIn.f a0 a1 a2 = some r) :
 Calls Tryd.prog 33 #[.int .i64 a0,.int .i64 a1,.int .i64 a2] w fun e w'=>e = .returned (.bool r) ∧ Drawn0 w w':=by
 have H : (if a0 ≥ a1 then (some (decide (a0 ≤ a2))) else (some false)) = some r:=h;clear h
 by_cases c4 : a0 ≥ a1
 ·rw [if_pos c4] at H;have c4b0 : decide (a1 ≤ a0) = true:=decide_eq_true c4;clear c4;obtain rfl:=Option.some.inj H;go_enter Tryd.func33,Tryd.ntmps33
  go_wp2
  go_ret
  exact ⟨by first | rfl | (simp;done) | (simp [*];done),by repeat (first | exact Drawn0.refl _ | apply Drawn0.step)⟩
 rw [if_neg c4] at H;have c4b0 : decide (a1 ≤ a0) = false:=decide_eq_false c4;clear c4;obtain rfl:=Option.some.inj H;go_enter Tryd.func33,Tryd.ntmps33
 go_wp2
 go_ret
 exact ⟨by first | rfl | (simp;done) | (simp [*];done),by repeat (first | exact Drawn0.refl _ | apply Drawn0.step)⟩
/-! ### code_isAccount: function 36 -/
def code_isAccount.f (a0 : Int) : Option (Bool):=(code_isIn.f a0 0 9).bind fun t104=>(some t104)
set_option maxHeartbeats 8000000 in
set_option maxRecDepth 100000 in
theorem code_isAccount.calls (a0 : Int) (r : Bool) (w : World) (h : code_isAccount.f a0 = some r) :
 Calls Tryd.prog 36 #[.int .i64 a0] w fun e w'=>e = .returned (.bool r) ∧ Drawn0 w w':=by
 have H : ((code_isIn.f a0 0 9).bind fun t104=>(some t104)) = some r:=h;clear h;replace H:=Option.bind_eq_some_iff.mp H;obtain ⟨t104,A20,H⟩:=H;replace H : (some t104) = some r:=H;have A2:=am A20;clear A20;obtain rfl:=Option.some.inj H;go_enter Tryd.func36,Tryd.ntmps36
 go_wp2_with (first | ((with_reducible refine gate_callee (f:=33) rfl ?_);refine gl (some 4) Tryd.func33 #[.int .i64 a0,.int .i64 0,.int .i64 9] ?_;(with_reducible refine (code_isIn.calls a0 0 9 t104 _ A2.out).mono ?_);rintro e w' ⟨rfl,⟨nd,rfl⟩⟩;refine ⟨_,rfl,?_⟩))
 go_ret
 exact ⟨by first | rfl | (simp;done) | (simp [*];done),by repeat (first | exact Drawn0.refl _ | apply Drawn0.step)⟩
-- NOT PRINTED: function 63 (api_Call_63)
-- NOT PRINTED: function 46 (api_Call_46)
end Go.Proofs.YtilckocpgififaaDoor.G
/- code.isCall: may a call be, within so many batches? By hand: a closure over the depth, and slices.ContainsFunc. -/
namespace Go.Proofs.YtilckocpgififaaDoor.G
open Go.RowKit Go.Proofs.YtilckocpgififaaDoorW.PrintWords Go.Proofs.YtilckocpgififaaDoorW.PrintLast Go.Proofs.YtilckocpgififaaDoorW.PrintMore
set_option linter.unusedVariables false
set_option linter.unusedSimpArgs false
def leafOk (k t n : Int) (l : List S24) : Bool:=
 if k = 1 then decide (l.length = 0) && decide (t = 0) && decide (0 ≤ n ∧ n ≤ 1073741824)
 else if k = 2 then decide (l.length = 0) && decide (0 ≤ t ∧ t ≤ 9) && decide (0 ≤ n ∧ n ≤ 1073741824)
 else if k = 3 ∨ k = 4 then decide (l.length = 0) && decide (t = 0) && decide (0 ≤ n ∧ n ≤ 11)
 else false
def okC : Nat → Int → Int → Int → List S24 → Bool
 | 0,k,t,n,l=>leafOk k t n l
 | f + 1,k,t,n,l=>if k = 5 then decide (t = 0) && decide (n = 0) && decide (1 ≤ l.length ∧ l.length ≤ 4) && l.all (fun x=>okC f x.f0 x.f1 x.f2 x.f3) else leafOk k t n l
abbrev okT (f : Nat) (x : S24) : Bool:=okC f x.f0 x.f1 x.f2 x.f3
def IsCallAt (f : Nat) (d : Int) : Prop:=∀ (k t n : Int) (A : Option Addr) (c : Nat) (l : List S24) (w : World),Kd.C k24 w A l.length l → l.length ≤ c →
 Calls Tryd.prog 25 #[.agg #[.int .i64 k,.int .i64 t,.int .i64 n,.slice A l.length c],.int .i64 d] w fun e w'=>e = .returned (.bool (okC f k t n l)) ∧ Below w.heap.size w w'
set_option maxRecDepth 100000 in
set_option maxHeartbeats 2000000 in
theorem bad_calls (f : Nat) (d : Int) (hd : 0 ≤ d ∧ d < 100) (ih : IsCallAt f (d + 1)) (k t n : Int) (A : Option Addr) (c : Nat) (l : List S24) (g : Nat) (w : World) (hC : Kd.C k24 w A l.length l) (hc : l.length ≤ c) (hg : w.cell? ⟨g,0,none⟩ = some (.int .i64 d)) (hgl : g < w.heap.size) :
 Calls Tryd.prog 45 #[.agg #[.int .i64 k,.int .i64 t,.int .i64 n,.slice A l.length c],.pointer (some ⟨g,0,none⟩)] w fun e w'=>e = .returned (.bool (!okC f k t n l)) ∧ Below w.heap.size w w':=by
 have hw2 : IntKind.i64.wrap (d + 1) = d + 1:=IntWalk.i64_in _ (by omega);have hg2 : (w.alloc (.cells #[.int .i64 k,.int .i64 t,.int .i64 n,.slice A l.length c] 24)).cell? ⟨g,0,none⟩ = some (.int .i64 d):=(((Below.refl w.heap.size w).alloc (Nat.le_refl _) _).cell hgl).trans hg;have hC2 : Kd.C k24 (w.alloc (.cells #[.int .i64 k,.int .i64 t,.int .i64 n,.slice A l.length c] 24)) A l.length l:=Kd.C_alloc hC _;go_enter Tryd.func45,Tryd.ntmps45
 go_wp2_with (go_at_call 25;refine (ih _ _ _ _ _ _ _ hC2 hc).mono ?_;rintro e w1 ⟨rfl,hb1⟩)
 go_ret
 exact ⟨rfl,((Below.refl w.heap.size w).alloc (Nat.le_refl _) _).trans (hb1.mono (by simp))⟩
theorem rd_T (l : List S24) (i : Nat) (h : i < l.length) : rd_T24 l (i : Int) = l[i]:=by
 unfold rd_T24
 rw [Int.toNat_natCast,List.getD_eq_getElem?_getD,List.getElem?_eq_getElem h];rfl
def badAt (f : Nat) : List S24 → Nat → Int
 | [],_=> -1
 | x :: l,i=>if okT f x then badAt f l (i + 1) else (i : Int)
theorem badAt_all (f : Nat) (l : List S24) : ∀ i,decide (badAt f l i ≥ 0) = !l.all (okT f):=by
 induction l with
 | nil=>intro i;simp [badAt]
 | cons x l ih=>
   intro i
   unfold badAt
   by_cases h : okT f x = true
   rotate_left
   ·rw [if_neg h];simp [h]
   rw [if_pos h,ih];simp [h]
set_option maxRecDepth 100000 in
set_option maxHeartbeats 4000000 in
theorem index_calls (f : Nat) (d : Int) (hd : 0 ≤ d ∧ d < 100) (ih : IsCallAt f (d + 1)) (A : Option Addr) (c : Nat) (l : List S24) (g : Nat) (w : World) (hC : Kd.C k24 w A l.length l) (hg : w.cell? ⟨g,0,none⟩ = some (.int .i64 d)) (hgl : g < w.heap.size) (hl : l.length ≤ 4) :
 Calls Tryd.prog 63 #[.slice A l.length c,.func (.func 45) #[] #[.pointer (some ⟨g,0,none⟩)]] w fun e w'=>e = .returned (.int .i64 (badAt f l 0)) ∧ Below w.heap.size w w':=by
 have HC:=am hC;have HG:=am hg;clear hC hg;go_enter Tryd.func63,Tryd.ntmps63
 go_wp2
 go_loopw [8] (fun i wr=>∃ k : Nat,i = .int .i64 (k : Int) ∧ k ≤ l.length ∧ Aside0 (badAt f l 0 = badAt f (l.drop k) k) ∧ Aside0 (Below w.heap.size w wr))
  (fun i _=>l.length - (intOf i).toNat)
 case atStart=>exact ⟨0,rfl,Nat.zero_le _,⟨rfl⟩,⟨Below.refl _ _⟩⟩
 case round=>
  obtain ⟨k,rfl,hk,HA,HB⟩:=hrel
  by_cases hlt : k < l.length
  rotate_left
  ·obtain rfl : k = l.length:=by omega
   have HA2:=HA.out;rw [List.drop_eq_nil_of_le (Nat.le_refl _),badAt] at HA2;have HA4:=am HA2;clear HA2;have g5 : decide ((l.length : Int) < (l.length : Int)) = false:=decide_eq_false (by omega)
   go_wp2
   go_ret
   exact ⟨by rw [HA4.out];rfl,HB.out⟩
  have d0 : decide ((k : Int) < (l.length : Int)) = true:=decide_eq_true (by omega);obtain ⟨ad,A3,c3,eA,h0,h1,h2,h3,hl3,hC3⟩:=at_T24 (Kd.C_below HC.out HB.out) (k : Int) (by omega) (by omega);subst eA;rw [rd_T l k hlt] at h0 h1 h2 h3 hl3 hC3;simp only [Int.toNat_natCast] at h0 h1 h2 h3;have hgw : wr.cell? ⟨g,0,none⟩ = some (.int .i64 d):=(HB.out.cell hgl).trans HG.out;have HA2:=HA.out;rw [List.drop_eq_getElem_cons hlt,badAt] at HA2
  have g0 : (0 : Int) ≤ (k : Int):=by omega
  have g1 : (k : Int) < (l.length : Int):=by omega
  have HC3:=am hC3;have HL3:=am hl3;have HGW:=am hgw;clear hC3 hl3 hgw
  by_cases hok : okT f l[k] = true
  rotate_left
  ·rw [if_neg hok] at HA2
   have hok' : okC f l[k].f0 l[k].f1 l[k].f2 l[k].f3 = false:=by simpa using hok
   have HA4:=am HA2;clear HA2
   go_wp2_with (go_at_call 45;refine (bad_calls f d hd ih _ _ _ _ _ _ g _ HC3.out HL3.out HGW.out (Nat.lt_of_lt_of_le hgl HB.out.size)).mono ?_;rintro e w1 ⟨rfl,hb1⟩;rw [hok'];have HB1:=am (HB.out.trans (hb1.mono HB.out.size));clear hb1)
   go_ret
   exact ⟨by rw [HA4.out];rfl,HB1.out⟩
  rw [if_pos hok] at HA2;have HA3:=am HA2;have hok' : okC f l[k].f0 l[k].f1 l[k].f2 l[k].f3 = true:=hok;clear HA2
  go_wp2_with (go_at_call 45;refine (bad_calls f d hd ih _ _ _ _ _ _ g _ HC3.out HL3.out HGW.out (Nat.lt_of_lt_of_le hgl HB.out.size)).mono ?_;rintro e w1 ⟨rfl,hb1⟩;rw [hok'];have HB1:=am (HB.out.trans (hb1.mono HB.out.size));clear hb1)
  exact ⟨⟨k + 1,by simp,by omega,HA3,HB1⟩,by simp [intOf];omega⟩
set_option maxRecDepth 100000 in
theorem contains_calls (f : Nat) (d : Int) (hd : 0 ≤ d ∧ d < 100) (ih : IsCallAt f (d + 1)) (A : Option Addr) (c : Nat) (l : List S24) (g : Nat) (w : World) (hC : Kd.C k24 w A l.length l) (hg : w.cell? ⟨g,0,none⟩ = some (.int .i64 d)) (hgl : g < w.heap.size) (hl : l.length ≤ 4) :
 Calls Tryd.prog 46 #[.slice A l.length c,.func (.func 45) #[] #[.pointer (some ⟨g,0,none⟩)]] w fun e w'=>e = .returned (.bool (!l.all (okT f))) ∧ Below w.heap.size w w':=by
 have h:=badAt_all f l 0;go_enter Tryd.func46,Tryd.ntmps46
 go_wp2_with (go_at_call 63;refine (index_calls f d hd ih A c l g w hC hg hgl hl).mono ?_;rintro e w1 ⟨rfl,hb1⟩)
 go_ret
 exact ⟨by rw [← h];rfl,hb1⟩
set_option maxRecDepth 100000 in
set_option maxHeartbeats 16000000 in
theorem isCall_leaf (f : Nat) (d : Int) (k t n : Int) (A : Option Addr) (c : Nat) (l : List S24) (w : World) (hk : k ≠ 5) :
 Calls Tryd.prog 25 #[.agg #[.int .i64 k,.int .i64 t,.int .i64 n,.slice A l.length c],.int .i64 d] w fun e w'=>e = .returned (.bool (leafOk k t n l)) ∧ Below w.heap.size w w':=by
 have hB : ∀ o1 o2,Below w.heap.size w ((w.alloc o1).alloc o2):=fun o1 o2=>((Below.refl _ w).alloc (Nat.le_refl _) _).alloc (by simp) _;have k5 : decide (k = 5) = false:=decide_eq_false hk
 unfold leafOk
 by_cases h1 : k = 1
 ·subst h1;clear hk k5;rw [if_pos rfl];go_enter Tryd.func25,Tryd.ntmps25
  go_wp2
  all_goals go_ret
  all_goals exact ⟨by first | rfl | (simp [*];done) | (simp [*];omega),hB _ _⟩
 by_cases h2 : k = 2
 ·subst h2;clear hk k5 h1;rw [if_neg (by decide),if_pos rfl];go_enter Tryd.func25,Tryd.ntmps25
  go_wp2
  all_goals go_ret
  all_goals exact ⟨by first | rfl | (simp [*];done) | (simp [*];omega),hB _ _⟩
 by_cases h3 : k = 3 ∨ k = 4
 ·rw [if_neg h1,if_neg h2,if_pos h3]
  rcases h3 with rfl | rfl
  all_goals clear hk k5 h1 h2
  all_goals go_enter Tryd.func25,Tryd.ntmps25
  all_goals go_wp2
  all_goals go_ret
  all_goals exact ⟨by first | rfl | (simp [*];done) | (simp [*];omega),hB _ _⟩
 rw [if_neg h1,if_neg h2,if_neg h3];have k1 : decide (k = 1) = false:=decide_eq_false h1;have k2 : decide (k = 2) = false:=decide_eq_false h2;have k3 : decide (k = 3) = false:=decide_eq_false (fun e=>h3 (.inl e));have k4 : decide (k = 4) = false:=decide_eq_false (fun e=>h3 (.inr e));go_enter Tryd.func25,Tryd.ntmps25
 go_wp2
 all_goals go_ret
 all_goals exact ⟨by first | rfl | (simp [*];done) | (simp [*];omega),hB _ _⟩
set_option maxRecDepth 100000 in
set_option maxHeartbeats 16000000 in
theorem isCall_batch0 (d : Int) (hd : 3 ≤ d) (t n : Int) (A : Option Addr) (c : Nat) (l : List S24) (w : World) :
 Calls Tryd.prog 25 #[.agg #[.int .i64 5,.int .i64 t,.int .i64 n,.slice A l.length c],.int .i64 d] w fun e w'=>e = .returned (.bool false) ∧ Below w.heap.size w w':=by
 have hB : ∀ o1 o2,Below w.heap.size w ((w.alloc o1).alloc o2):=fun o1 o2=>((Below.refl _ w).alloc (Nat.le_refl _) _).alloc (by simp) _;have d0 : decide (d < 3) = false:=decide_eq_false (by omega);go_enter Tryd.func25,Tryd.ntmps25
 go_wp2
 all_goals go_ret
 all_goals exact ⟨by first | rfl | (simp [*];done) | (simp [*];omega),hB _ _⟩
set_option maxRecDepth 100000 in
set_option maxHeartbeats 16000000 in
theorem isCall_batch (f : Nat) (d : Int) (hd : 0 ≤ d ∧ d < 3) (ih : IsCallAt f (d + 1)) (t n : Int) (A : Option Addr) (c : Nat) (l : List S24) (w : World) (hC : Kd.C k24 w A l.length l) :
 Calls Tryd.prog 25 #[.agg #[.int .i64 5,.int .i64 t,.int .i64 n,.slice A l.length c],.int .i64 d] w fun e w'=>e = .returned (.bool (decide (t = 0) && decide (n = 0) && decide (1 ≤ l.length ∧ l.length ≤ 4) && l.all (okT f))) ∧ Below w.heap.size w w':=by
 have hB : ∀ o1 o2,Below w.heap.size w ((w.alloc o1).alloc o2):=fun o1 o2=>((Below.refl _ w).alloc (Nat.le_refl _) _).alloc (by simp) _;have d0 : decide (d < 3) = true:=decide_eq_true (by omega);have HC:=am hC;have hc2 : ∀ o1 o2,Kd.C k24 ((w.alloc o1).alloc o2) A l.length l:=fun o1 o2=>Kd.C_alloc (Kd.C_alloc HC.out _) _
 have hg2 : ∀ o1,((w.alloc o1).alloc (.cells #[.int .i64 d] 3)).cell? ⟨w.heap.size + 1,0,none⟩ = some (.int .i64 d):=fun o1=>by simp
 have HG2:=am hg2;have HC2:=am hc2;clear hC hg2 hc2
 by_cases hl : 1 ≤ l.length ∧ l.length ≤ 4
 ·have l1 : decide (1 ≤ (l.length : Int)) = true:=decide_eq_true (by omega);have l2 : decide ((l.length : Int) ≤ 4) = true:=decide_eq_true (by omega);go_enter Tryd.func25,Tryd.ntmps25
  go_wp2_with (first | (go_at_call 46;refine (contains_calls f d (by omega) ih A c l (w.heap.size + 1) _ (HC2.out _ _) (HG2.out _) (by simp) hl.2).mono ?_;rintro e w1 ⟨rfl,hb1⟩) | go_in)
  all_goals go_ret
  all_goals first
   | exact ⟨by first | rfl | (simp [*];done) | (simp [*];omega),hB _ _⟩
   | exact ⟨by first | rfl | (simp [*];done) | (simp [*];omega),(hB _ _).trans (hb1.mono (by simp only [World.size_alloc];omega))⟩
 rw [decide_eq_false hl,Bool.and_false,Bool.false_and];have l3 : decide (1 ≤ (l.length : Int)) = true → decide ((l.length : Int) ≤ 4) = false:=fun h=>decide_eq_false (by have:=of_decide_eq_true h;omega)
 by_cases l1 : 1 ≤ (l.length : Int)
 rotate_left
 ·have l1':=decide_eq_false l1;go_enter Tryd.func25,Tryd.ntmps25
  go_wp2
  all_goals go_ret
  all_goals exact ⟨by first | rfl | (simp [*];done) | (simp [*];omega),hB _ _⟩
 have l2:=l3 (decide_eq_true l1);have l1':=decide_eq_true l1;go_enter Tryd.func25,Tryd.ntmps25
 go_wp2
 all_goals go_ret
 all_goals exact ⟨by first | rfl | (simp [*];done) | (simp [*];omega),hB _ _⟩
theorem isCall_at : ∀ (f : Nat) (d : Int),d + f = 3 → 0 ≤ d → IsCallAt f d
 | 0,d,h,h0=>fun k t n A c l w hC hc=>by
   by_cases hk : k = 5
   rotate_left
   ·exact isCall_leaf 0 d k t n A c l w hk
   subst hk;exact isCall_batch0 d (by omega) t n A c l w
 | f + 1,d,h,h0=>fun k t n A c l w hC hc=>by
   unfold okC
   by_cases hk : k = 5
   rotate_left
   ·rw [if_neg hk];exact isCall_leaf f d k t n A c l w hk
   subst hk;rw [if_pos rfl];exact isCall_batch f d (by omega) (isCall_at f (d + 1) (by omega) (by omega)) t n A c l w hC
def code_isCall.f (k t n : Int) (l : List S24) (d : Int) : Option Bool:=if d = 0 then some (okC 3 k t n l) else none
theorem code_isCall.calls (k t n : Int) (A : Option Addr) (c : Nat) (l : List S24) (d : Int) (r : Bool) (w : World) (hC : Kd.C k24 w A l.length l) (hc : l.length ≤ c) (h : code_isCall.f k t n l d = some r) :
 Calls Tryd.prog 25 #[.agg #[.int .i64 k,.int .i64 t,.int .i64 n,.slice A l.length c],.int .i64 d] w fun e w'=>e = .returned (.bool r) ∧ Below w.heap.size w w':=by
 unfold code_isCall.f at h
 by_cases hd : d = 0
 rotate_left
 ·rw [if_neg hd] at h;cases h
 subst hd;rw [if_pos rfl] at h;obtain rfl:=Option.some.inj h;exact isCall_at 3 0 (by omega) (by omega) k t n A c l w hC hc
end Go.Proofs.YtilckocpgififaaDoor.G
/- code.SameCall: are two calls one? By hand: slices.EqualFunc over itself. -/
namespace Go.Proofs.YtilckocpgififaaDoor.G
open Go.RowKit Go.Proofs.YtilckocpgififaaDoorW.PrintWords Go.Proofs.YtilckocpgififaaDoorW.PrintLast Go.Proofs.YtilckocpgififaaDoorW.PrintMore
set_option linter.unusedVariables false
set_option linter.unusedSimpArgs false
def allM (p : S24 → S24 → Option Bool) : List S24 → List S24 → Option Bool
 | x :: l,y :: m=>(p x y).bind fun b=>if b = true then allM p l m else some false
 | _,_=>some true
def sameF : Nat → S24 → S24 → Option Bool
 | 0,_,_=>none
 | f + 1,a,b=>if a.f0 = b.f0 ∧ a.f1 = b.f1 ∧ a.f2 = b.f2 ∧ a.f3.length = b.f3.length then allM (sameF f) a.f3 b.f3 else some false
def SameAt (f : Nat) : Prop:=∀ (a b : S24) (A B : Option Addr) (c d : Nat) (r : Bool) (w : World),Kd.C k24 w A a.f3.length a.f3 → a.f3.length ≤ c → Kd.C k24 w B b.f3.length b.f3 → b.f3.length ≤ d → sameF f a b = some r →
 Calls Tryd.prog 16 #[.agg #[.int .i64 a.f0,.int .i64 a.f1,.int .i64 a.f2,.slice A a.f3.length c],.agg #[.int .i64 b.f0,.int .i64 b.f1,.int .i64 b.f2,.slice B b.f3.length d]] w fun e w'=>e = .returned (.bool r) ∧ Below w.heap.size w w'
theorem C_short {w : World} {A : Option Addr} {n : Nat} {l : List S24} (h : Kd.C k24 w A n l) : n ≤ 9223372036854775807:=h.2.1
set_option maxRecDepth 100000 in
set_option maxHeartbeats 8000000 in
theorem equal_calls (f : Nat) (ih : SameAt f) (A B : Option Addr) (c d n : Nat) (l m : List S24) (r : Bool) (w : World) (hC : Kd.C k24 w A n l) (hD : Kd.C k24 w B n m) (hl : l.length = n) (hm : m.length = n) (hr : allM (sameF f) l m = some r) :
 Calls Tryd.prog 27 #[.slice A n c,.slice B n d,.func (.func 16) #[] #[]] w fun e w'=>e = .returned (.bool r) ∧ Below w.heap.size w w':=by
 have hlen : (n : Int) ≤ 9223372036854775807:=by have:=C_short hC;omega
 have HC:=am hC;have HD:=am hD;have HR:=am hr;clear hC hD hr;go_enter Tryd.func27,Tryd.ntmps27
 go_wp2
 go_loopw [17] (fun i wr=>∃ k : Nat,i = .int .i64 (k : Int) ∧ k ≤ n ∧ Aside0 (allM (sameF f) (l.drop k) (m.drop k) = some r) ∧ Aside0 (Below w.heap.size w wr))
  (fun i _=>n - (intOf i).toNat)
 case atStart=>exact ⟨0,rfl,Nat.zero_le _,HR,⟨Below.refl _ _⟩⟩
 case round=>
  clear HR;obtain ⟨k,rfl,hk,HA,HB⟩:=hrel
  by_cases hlt : k < n
  rotate_left
  ·obtain rfl : k = n:=by omega
   have HA2:=HA.out;rw [List.drop_eq_nil_of_le (by omega),allM] at HA2
   ·have HA4:=am (Option.some.inj HA2);have g5 : decide ((k : Int) < (k : Int)) = false:=decide_eq_false (by omega);clear HA2
    go_wp2
    go_ret
    exact ⟨by rw [← HA4.out];rfl,HB.out⟩
   ·intro x l' y m' e;cases e
  have d0 : decide ((k : Int) < (n : Int)) = true:=decide_eq_true (by omega);have hw : IntKind.i64.wrap ((k : Int) + 1) = (k : Int) + 1:=IntWalk.i64_in _ (by omega);obtain ⟨ad,A3,c3,eA,h0,h1,h2,h3,hl3,hC3⟩:=at_T24 (Kd.C_below HC.out HB.out) (k : Int) (by omega) (by omega);obtain ⟨be,B3,d3,eB,j0,j1,j2,j3,jl3,jC3⟩:=at_T24 (Kd.C_below HD.out HB.out) (k : Int) (by omega) (by omega);subst eA eB
  have hkl : k < l.length:=by omega
  have hkm : k < m.length:=by omega
  rw [rd_T l k hkl] at h0 h1 h2 h3 hl3 hC3;rw [rd_T m k hkm] at j0 j1 j2 j3 jl3 jC3;have HA2:=HA.out;rw [List.drop_eq_getElem_cons hkl,List.drop_eq_getElem_cons hkm,allM] at HA2;obtain ⟨x,hx⟩ : ∃ x,x = l[k]:=⟨_,rfl⟩;obtain ⟨y,hy⟩ : ∃ y,y = m[k]:=⟨_,rfl⟩;rw [← hx] at h0 h1 h2 h3 hl3 hC3 HA2;rw [← hy] at j0 j1 j2 j3 jl3 jC3 HA2;clear hx hy HA hkl hkm;obtain ⟨b,hb,HA3⟩:=Option.bind_eq_some_iff.1 HA2;simp only [Int.toNat_natCast] at h0 h1 h2 h3 j0 j1 j2 j3
  have g0 : (0 : Int) ≤ (k : Int):=by omega
  have g1 : (k : Int) < (n : Int):=by omega
  have HC3:=am hC3;have HL3:=am hl3;have JC3:=am jC3;have JL3:=am jl3;have Hb:=am hb;have HA4:=am HA3;clear hC3 hl3 jC3 jl3 hb HA3 HA2;have k1 : ∀ W,Below wr.heap.size wr W → Kd.C k24 W A3 x.f3.length x.f3:=fun W hW=>Kd.C_below HC3.out hW;have k2 : ∀ W,Below wr.heap.size wr W → Kd.C k24 W B3 y.f3.length y.f3:=fun W hW=>Kd.C_below JC3.out hW;have hb1 : Below wr.heap.size wr (wr.alloc (.cells #[.int .i64 x.f0,.int .i64 x.f1,.int .i64 x.f2,.slice A3 x.f3.length c3] 24)):=(Below.refl _ wr).alloc (Nat.le_refl _) _;have hb2 : Below wr.heap.size wr ((wr.alloc (.cells #[.int .i64 x.f0,.int .i64 x.f1,.int .i64 x.f2,.slice A3 x.f3.length c3] 24)).alloc (.cells #[.int .i64 y.f0,.int .i64 y.f1,.int .i64 y.f2,.slice B3 y.f3.length d3] 24)):=hb1.alloc (by simp) _;replace j0:=(hb1.cell (World.block_lt_of_cell? _ _ j0)).trans j0;replace j1:=(hb1.cell (World.block_lt_of_cell? _ _ j1)).trans j1;replace j2:=(hb1.cell (World.block_lt_of_cell? _ _ j2)).trans j2;replace j3:=(hb1.cell (World.block_lt_of_cell? _ _ j3)).trans j3;have HB2:=am hb2;have q1:=am (k1 _ hb2);have q2:=am (k2 _ hb2);clear hb1 hb2 k1 k2
  cases b with
  | true=>
    go_wp2_with (go_at_call 16;refine (ih x y _ _ _ _ true _ q1.out HL3.out q2.out JL3.out Hb.out).mono ?_;rintro e w1 ⟨rfl,hb3⟩;have HB3:=am (HB.out.trans ((HB2.out.trans (hb3.mono HB2.out.size)).mono HB.out.size));clear hb3)
    exact ⟨⟨k + 1,by simp,by omega,⟨by have:=HA4.out;simpa using this⟩,HB3⟩,by simp [intOf];omega⟩
  | false=>
    have HA5:=am (Option.some.inj (by have:=HA4.out;simpa using this : some false = some r))
    go_wp2_with (go_at_call 16;refine (ih x y _ _ _ _ false _ q1.out HL3.out q2.out JL3.out Hb.out).mono ?_;rintro e w1 ⟨rfl,hb3⟩;have HB3:=am (HB.out.trans ((HB2.out.trans (hb3.mono HB2.out.size)).mono HB.out.size));clear hb3)
    go_ret
    exact ⟨by rw [← HA5.out];rfl,HB3.out⟩
set_option maxRecDepth 100000 in
set_option maxHeartbeats 8000000 in
theorem equal_ne (A B : Option Addr) (c d n m : Nat) (h : n ≠ m) (w : World) :
 Calls Tryd.prog 27 #[.slice A n c,.slice B m d,.func (.func 16) #[] #[]] w fun e w'=>e = .returned (.bool false) ∧ Below w.heap.size w w':=by
 have h1 : decide ((n : Int) = (m : Int)) = false:=decide_eq_false (by omega);have h2 : ¬ n = m:=h;go_enter Tryd.func27,Tryd.ntmps27
 go_wp2
 go_ret
 exact ⟨rfl,Below.refl _ _⟩
set_option maxRecDepth 100000 in
set_option maxHeartbeats 8000000 in
theorem same_at : ∀ f,SameAt f
 | 0=>fun a b A B c d r w _ _ _ _ h=>by simp [sameF] at h
 | f + 1=>fun a b A B c d r w hC hc hD hd h=>by
   obtain ⟨a0,a1,a2,l⟩:=a;obtain ⟨b0,b1,b2,m⟩:=b;simp only [sameF] at h
   dsimp only at hC hc hD hd ⊢
   have ih:=same_at f;have hB : ∀ o1 o2,Below w.heap.size w ((w.alloc o1).alloc o2):=fun o1 o2=>((Below.refl _ w).alloc (Nat.le_refl _) _).alloc (by simp) _;have HC : Aside0 (∀ o1 o2,Kd.C k24 ((w.alloc o1).alloc o2) A l.length l):=⟨fun o1 o2=>Kd.C_alloc (Kd.C_alloc hC _) _⟩;have HD : Aside0 (∀ o1 o2,Kd.C k24 ((w.alloc o1).alloc o2) B m.length m):=⟨fun o1 o2=>Kd.C_alloc (Kd.C_alloc hD _) _⟩
   by_cases hl : l.length = m.length
   rotate_left
   ·have HH2:=am (Option.some.inj (by rwa [if_neg (fun q=>hl q.2.2.2)] at h : some false = some r));clear h;go_enter Tryd.func16,Tryd.ntmps16
    go_wp2_with (go_at_call 27;refine (equal_ne A B c d _ _ hl _).mono ?_;rintro e w1 ⟨rfl,hb1⟩)
    all_goals go_ret
    all_goals first
     | exact ⟨by rw [← HH2.out];rfl,hB _ _⟩
     | exact ⟨by rw [← HH2.out];rfl,(hB _ _).trans (hb1.mono (hB _ _).size)⟩
   have HH : Aside0 ((if a0 = b0 ∧ a1 = b1 ∧ a2 = b2 then allM (sameF f) l m else some false) = some r):=⟨by simpa [hl] using h⟩;clear h hC hD
   by_cases e0 : a0 = b0
   rotate_left
   ·have HH2:=am (Option.some.inj (by have:=HH.out;rwa [if_neg (fun q=>e0 q.1)] at this : some false = some r));go_enter Tryd.func16,Tryd.ntmps16
    go_wp2
    go_ret
    exact ⟨by rw [← HH2.out];rfl,hB _ _⟩
   by_cases e1 : a1 = b1
   rotate_left
   ·have HH2:=am (Option.some.inj (by have:=HH.out;rwa [if_neg (fun q=>e1 q.2.1)] at this : some false = some r));subst e0;go_enter Tryd.func16,Tryd.ntmps16
    go_wp2
    go_ret
    exact ⟨by rw [← HH2.out];rfl,hB _ _⟩
   by_cases e2 : a2 = b2
   rotate_left
   ·have HH2:=am (Option.some.inj (by have:=HH.out;rwa [if_neg (fun q=>e2 q.2.2)] at this : some false = some r));subst e0 e1;go_enter Tryd.func16,Tryd.ntmps16
    go_wp2
    go_ret
    exact ⟨by rw [← HH2.out];rfl,hB _ _⟩
   have HH2:=am (by have:=HH.out;rwa [if_pos ⟨e0,e1,e2⟩] at this : allM (sameF f) l m = some r);have HL:=am hl;subst e0 e1 e2;have HD2 : Aside0 (∀ o1 o2,Kd.C k24 ((w.alloc o1).alloc o2) B l.length m):=⟨by rw [HL.out];exact HD.out⟩;obtain ⟨n,hn⟩ : ∃ n,n = m.length:=⟨_,rfl⟩
   have hln : l.length = n:=by omega
   rw [hln,← hn];rw [hln] at HC HD2;clear hl HL HD HH;have HN:=am hn;have HLN:=am hln;clear hn hln;go_enter Tryd.func16,Tryd.ntmps16
   go_wp2_with (go_at_call 27;refine (equal_calls f ih A B c d n l m r _ (HC.out _ _) (HD2.out _ _) HLN.out HN.out.symm HH2.out).mono ?_;rintro e w1 ⟨rfl,hb1⟩)
   go_ret
   exact ⟨rfl,(hB _ _).trans (hb1.mono (hB _ _).size)⟩
theorem code_SameCall.calls (f : Nat) (a b : S24) (A B : Option Addr) (c d : Nat) (r : Bool) (w : World) (hC : Kd.C k24 w A a.f3.length a.f3) (hc : a.f3.length ≤ c) (hD : Kd.C k24 w B b.f3.length b.f3) (hd : b.f3.length ≤ d) (h : sameF f a b = some r) :
 Calls Tryd.prog 16 #[.agg #[.int .i64 a.f0,.int .i64 a.f1,.int .i64 a.f2,.slice A a.f3.length c],.agg #[.int .i64 b.f0,.int .i64 b.f1,.int .i64 b.f2,.slice B b.f3.length d]] w fun e w'=>e = .returned (.bool r) ∧ Below w.heap.size w w':=same_at f a b A B c d r w hC hc hD hd h
end Go.Proofs.YtilckocpgififaaDoor.G
