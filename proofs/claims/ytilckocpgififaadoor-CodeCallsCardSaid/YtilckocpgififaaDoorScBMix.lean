/- strings.Fields at the text of blake's orders: ten rows of sixteen digits. -/
import Derived.Test.YtilckocpgififaaDoorScBOrders
import Derived.Laws.Strings2
import Derived.Laws.Strings3
import Derived.Test.YtilckocpgififaaDoorScHStep
import Derived.Test.YtilckocpgififaaDoorScBArr
namespace Go.Proofs.YtilckocpgififaaDoor.G
open Go.RowKit Go.Proofs.YtilckocpgififaaDoorW.PrintWords Go.Proofs.YtilckocpgififaaDoorW.PrintLast Go.Proofs.YtilckocpgififaaDoorW.PrintMore
set_option linter.unusedVariables false
set_option linter.unusedSimpArgs false
def emptyRows : List Value:=List.replicate 10 (Value.string ByteArray.empty)
theorem info_str : (Tryd.prog.info? 9).map (fun i=>(i.zero,i.size,i.bytes)) = some (some (.string ByteArray.empty),1,16):=by kernel_rfl
theorem made_ten : madeCells #[Value.string ByteArray.empty] 10 = emptyRows.toArray:=by
 apply Array.ext
 ·simp [madeCells,emptyRows]
 ·intro i h1 h2
  have e : emptyRows.toArray[i] = Value.string ByteArray.empty:=by simp only [emptyRows,List.getElem_toArray,List.getElem_replicate]
  rw [e]
  simp [madeCells,Nat.mod_one]
theorem run_make_ten (w : World) : (Instr.makeSlice 108 (.int .i64 10) (.int .i64 10)).run Tryd.prog w = .ok (.slice (some ⟨w.heap.size,0,none⟩) 10 10) (w.alloc (.cells emptyRows.toArray 9)):=by
 have h:=run_make_row' (P:=Tryd.prog) 108 9 (.string ByteArray.empty) 16 Tryd.underlying108 info_str rfl .i64 .i64 10 (by decide) (by decide) w;rw [made_ten] at h;exact h
def rowsTo (n : Nat) : List Value:=(List.range 10).map fun j=>Value.string (if j < n then rowOf j else ByteArray.empty)
theorem rowsTo_zero : rowsTo 0 = emptyRows:=by rfl
theorem rowsTo_length (n : Nat) : (rowsTo n).length = 10:=by simp [rowsTo]
theorem rowsTo_set (n : Nat) (h : n < 10) : (rowsTo n).set n (.string (rowOf n)) = rowsTo (n + 1):=by
 apply List.ext_getElem (by simp [rowsTo])
 intro i h1 h2;rw [List.getElem_set]
 have hi : i < 10:=by simpa [rowsTo] using h2
 simp only [rowsTo,List.getElem_map,List.getElem_range]
 by_cases e : n = i
 ·subst e;simp
 rw [if_neg e]
 congr 1
 by_cases hlt : i < n
 ·rw [if_pos hlt,if_pos (by omega)]
 rw [if_neg hlt,if_neg (by omega)]
def orderRows : List Value:=(List.range 10).map fun j=>Value.string (rowOf j)
theorem rowsTo_ten : rowsTo 10 = orderRows:=by
 unfold rowsTo orderRows
 apply List.map_congr_left
 intro j hj;rw [if_pos (List.mem_range.1 hj)]
theorem rowsTo_at (n : Nat) (h : n < 10) : (rowsTo n)[n]? = some (.string ByteArray.empty):=by
 simp [rowsTo,h]
def Spaces (w : World) : Prop:=(∀ b : Int,(48 ≤ b ∧ b ≤ 57 ∨ 97 ≤ b ∧ b ≤ 102) → w.cell? ⟨0,b.toNat,none⟩ = some (.int .u8 0)) ∧ w.cell? ⟨0,32,none⟩ = some (.int .u8 1)
theorem and_space : Go.bits .and .i64 0 (Go.bits .xor .i64 (if IntKind.i64.signed = true then -1 else 9223372036854775807) 1) = 0:=by decide +kernel
theorem and_more : Go.bits .and .i64 0 (Go.bits .xor .i64 (if IntKind.i64.signed = true then -1 else 9223372036854775807) 0) = 0:=by decide +kernel
theorem and_start : Go.bits .and .i64 1 (Go.bits .xor .i64 (if IntKind.i64.signed = true then -1 else 9223372036854775807) 0) = 1:=by decide +kernel
set_option maxRecDepth 100000 in
set_option maxHeartbeats 8000000 in
theorem fields_calls (S : ByteArray) (hS : S = ordersB) (w : World) (hT : Spaces w) :
 Calls Tryd.prog 69 #[.string S] w fun e w'=>∃ g,e = .returned (.slice (some ⟨g,0,none⟩) 10 10) ∧ w'.rangeAt g 0 orderRows ∧ g < w'.heap.size ∧ Below w.heap.size w w':=by
 have hsz : S.size = 169:=by rw [hS];exact orders_size
 have hmk : ∀ w,(Instr.makeSlice 108 (.int .i64 10) (.int .i64 10)).run Tryd.prog w = .ok (.slice (some ⟨w.heap.size,0,none⟩) 10 10) (w.alloc (.cells emptyRows.toArray 9)):=fun w=>
  run_make_ten w
 have HS:=am hS;have HMK:=am hmk;have HT:=am hT;clear hS hT hmk;go_enter Tryd.func69,Tryd.ntmps69
 go_wp2
 go_loopw [6,3,4,5] (fun i n v b wr=>∃ x n0 v0 b0 : Int,i = .int .i64 x ∧ n = .int .i64 n0 ∧ v = .int .i64 v0 ∧ b = .int .u8 b0 ∧ Aside0 ((0 ≤ x ∧ x ≤ 169) ∧ n0 = (x + 16) / 17 ∧ (v0 = if x % 17 = 0 then 1 else 0) ∧ 0 ≤ b0 ∧ b0 < 128) ∧ wr = w)
  (fun i _ _ _ _=>169 - (intOf i).toNat)
 case atStart=>exact ⟨0,0,1,0,rfl,rfl,rfl,rfl,⟨⟨by omega,by omega⟩,by omega,rfl,by omega,by omega⟩,rfl⟩
 case round=>
  obtain ⟨x,n0,v0,b0,rfl,rfl,rfl,rfl,hx,rfl⟩:=hrel;obtain ⟨⟨hx0,hx1⟩,hn,hv,hb0,hb1⟩:=hx.out
  by_cases hlt : x < 169
  ·have hlt' : x < (S.size : Int):=by omega
   have d0 : decide (x < (S.size : Int)) = true:=decide_eq_true hlt'
   have xw : wrap64 (x + 1) = x + 1:=by unfold wrap64;omega
   obtain ⟨c,hc⟩ : ∃ c,c = bt S x:=⟨_,rfl⟩
   have hbt : ∀ h : x.toNat < S.size,((S[x.toNat]'h).toNat : Int) = c:=fun h=>by rw [hc];exact bt_at S x h
   have hat:=orders_at ⟨x.toNat,by omega⟩;simp only [Int.toNat_of_nonneg hx0] at hat;rw [← HS.out,← hc] at hat;obtain ⟨sb,hsb⟩ : ∃ s,Go.bits .or .u8 b0 c = s:=⟨_,rfl⟩;have hsbb:=or_small7 ⟨b0.toNat,by omega⟩ ⟨c.toNat,by omega⟩;simp only [Int.toNat_of_nonneg hb0,Int.toNat_of_nonneg (show 0 ≤ c by omega)] at hsbb;rw [hsb] at hsbb
   rcases hat with ⟨hm,hc32⟩ | ⟨hm,hcd⟩
   ·subst hc32
    have hv0 : v0 = 0:=by rw [hv,if_neg (by omega)]
    subst hv0;have hs:=HT.out.2;have Hx:=am (show x % 17 = 16 by omega);have Hn:=am hn;have Hs:=am hsbb;have Hlt:=am hlt;clear hm hn hv hx hc hsbb hb0 hb1 hlt
    go_wp2
    have hlt:=Hlt.out;have hm:=Hx.out;have hn:=Hn.out;exact ⟨⟨x + 1,_,1,sb,rfl,rfl,rfl,rfl,⟨⟨by omega,by omega⟩,by rw [and_space];unfold wrap64;omega,by rw [if_pos (by omega)],Hs.out.1,Hs.out.2⟩,trivial⟩,by simp [intOf];omega⟩
   ·have hs:=HT.out.1 c hcd
    have c0 : 0 ≤ c:=by omega
    have c1 : c < 256:=by omega
    have Hx:=am (show x % 17 ≠ 16 by omega);have Hn:=am hn;have Hs:=am hsbb;have Hlt:=am hlt
    by_cases hm0 : x % 17 = 0
    rotate_left
    ·have hv1 : v0 = 0:=by rw [hv,if_neg hm0]
     subst hv1;have Hm0:=am hm0;clear hm hn hv hx hc hsbb hb0 hb1 hlt hcd hm0
     go_wp2
     have hlt:=Hlt.out;have hm:=Hx.out;have hm0:=Hm0.out;have hn:=Hn.out;exact ⟨⟨x + 1,_,0,sb,rfl,rfl,rfl,rfl,⟨⟨by omega,by omega⟩,by rw [and_more];unfold wrap64;omega,by rw [if_neg (by omega)],Hs.out.1,Hs.out.2⟩,trivial⟩,by simp [intOf];omega⟩
    have hv1 : v0 = 1:=by rw [hv,if_pos hm0]
    subst hv1;have Hm0:=am hm0;clear hm hn hv hx hc hsbb hb0 hb1 hlt hcd hm0
    go_wp2
    have hlt:=Hlt.out;have hm:=Hx.out;have hm0:=Hm0.out;have hn:=Hn.out;exact ⟨⟨x + 1,_,0,sb,rfl,rfl,rfl,rfl,⟨⟨by omega,by omega⟩,by rw [and_start];unfold wrap64;omega,by rw [if_neg (by omega)],Hs.out.1,Hs.out.2⟩,trivial⟩,by simp [intOf];omega⟩
  have hlt' : ¬ x < (S.size : Int):=by omega
  have d0 : decide (x < (S.size : Int)) = false:=decide_eq_false hlt'
  have hx : x = 169:=by omega
  subst hx
  have hn : n0 = 10:=by omega
  subst hn;have d1 : decide (b0 ≥ 128) = false:=decide_eq_false (by omega);clear hx hn hv hb0 hlt
  go_upto_region 15 with ((with_reducible refine gate_dst (N:=41) rfl ?_);refine slice_event ?hg (N:=41) ?hd (cs:=emptyRows.toArray) (t:=9) (n:=10) (c:=10) ?hr ?_;(case hd=>rfl);(case hg=>rfl);(case hr=>first | (simp [execOp,HMK.out,go_sem];done) | (simp [execOp,HMK.out,go_sem];rfl));intro gA hg_ w1 hbox_ hb_;have GA:=am hg_;have BA:=am hbox_;have HB1:=am hb_;clear hg_ hbox_ hb_)
  have hA0 : w1.rangeAt gA 0 (rowsTo 0):=by rw [rowsTo_zero];exact rangeAt_box BA.out
  have hT0 : w1.there gA 0 10:=there_box BA.out;have hlt:=blk_lt BA.out;have HA0:=am hA0;have HT0:=am hT0;have HL:=am hlt;have hS1:=HT.out;have HS1 : Aside0 (Spaces w1):=⟨fun b hb=>(HB1.out.cell (World.block_lt_of_cell? _ _ (HT.out.1 b hb))).trans (HT.out.1 b hb),(HB1.out.cell (World.block_lt_of_cell? _ _ HT.out.2)).trans HT.out.2⟩;have HNE : Aside0 (gA ≠ 0):=⟨by have:=GA.out;have:=World.block_lt_of_cell? _ _ HT.out.2;omega⟩;have p0 : ∀ h : 0 < S.size,((S[0]'h).toNat : Int) = 48:=fun h=>(bt_at S 0 h).trans (by rw [HS.out];decide +kernel);have p1 : w1.cell? ⟨0,48,none⟩ = some (.int .u8 0):=HS1.out.1 48 (by omega);have p2 : decide ((0 : Int) < (S.size : Int)) = true:=decide_eq_true (by omega);clear hA0 hT0 hlt hS1
  go_wp2
  go_loopw [12] (fun i wr=>i = .int .i64 0 ∧ wr = w1) (fun _ _=>0)
  case atStart=>exact ⟨rfl,rfl⟩
  case round=>
   obtain ⟨rfl,rfl⟩:=hrel;obtain ⟨wA,hwA⟩ : ∃ wA,wA = wr:=⟨_,rfl⟩;subst hwA
   go_wp2
   go_loopw [12,10,11] (fun i n f wz=>∃ x n0 f0 : Int,i = .int .i64 x ∧ n = .int .i64 n0 ∧ f = .int .i64 f0 ∧ Aside0 ((0 ≤ x ∧ x ≤ 169) ∧ n0 = x / 17 ∧ f0 = 17 * (x / 17) ∧ wz.rangeAt gA 0 (rowsTo (x / 17).toNat) ∧ wz.there gA 0 10 ∧ wA.grownBy wz (some gA)))
    (fun i _ _ _=>169 - (intOf i).toNat)
   case atStart=>exact ⟨0,0,0,rfl,rfl,rfl,⟨⟨by omega,by omega⟩,by omega,by omega,HA0.out,HT0.out,World.grownBy.refl _ _⟩⟩
   case round=>
    obtain ⟨x,n0,f0,rfl,rfl,rfl,hx⟩:=hrel;obtain ⟨⟨hx0,hx1⟩,hn,hf,hR,hTh,hG⟩:=hx.out
    by_cases hlt : x < 169
    rotate_left
    ·have hlt' : ¬ x < (S.size : Int):=by omega
     have d0 : decide (x < (S.size : Int)) = false:=decide_eq_false hlt'
     have hx9 : x = 169:=by omega
     subst hx9
     have hn9 : n0 = 9:=by omega
     have hf9 : f0 = 153:=by omega
     subst hn9;subst hf9
     have sc : wr.cell? ⟨gA,9,none⟩ = some (.string ByteArray.empty):=by
      have:=hR 9 _ (rowsTo_at 9 (by omega));rwa [Nat.zero_add] at this
     have sf : wr.frozen? ⟨gA,9,none⟩ = false:=by
      have:=(hTh 9 (by omega)).2;rwa [Nat.zero_add] at this
     obtain ⟨sub,hsub⟩ : ∃ s,S.extract 153 169 = s:=⟨_,rfl⟩
     have hsub1 : sub = rowOf 9:=by
      rw [← hsub,HS.out];exact rows_cut ⟨9,by omega⟩
     have hd : decide ((153 : Int) < (S.size : Int)) = true:=decide_eq_true (by omega)
     have hd2 : (153 : Int) ≤ (S.size : Int):=by omega
     have n0_:=arr_set_range hR (by rw [rowsTo_length];exact hTh) 9 (by rw [rowsTo_length];omega) (.string sub);rw [hsub1,show ((169 : Int) / 17).toNat = 9 from rfl,rowsTo_set _ (by omega),← hsub1,rowsTo_ten] at n0_;have n2_:=grown_set hG 9 (.string sub);have N0:=am n0_;have N2:=am n2_;clear hx hR hTh hG hsub1 n0_ n2_ hn hf
     go_wp2
     go_ret
     have hl : gA < (wr.setCell ⟨gA,9,none⟩ (.string sub)).heap.size:=Nat.lt_of_lt_of_le HL.out N2.out.size;exact ⟨gA,rfl,N0.out,hl,(HB1.out.mono (Nat.le_refl _)).trans ⟨N2.out.os,N2.out.tape,N2.out.output,N2.out.size,fun k hk=>N2.out.block k (Nat.lt_of_lt_of_le hk HB1.out.size) (by have:=GA.out;simp;omega)⟩⟩
    have hlt' : x < (S.size : Int):=by omega
    have d0 : decide (x < (S.size : Int)) = true:=decide_eq_true hlt'
    have xw : wrap64 (x + 1) = x + 1:=by unfold wrap64;omega
    have nw : wrap64 (n0 + 1) = n0 + 1:=by unfold wrap64;omega
    obtain ⟨c,hc⟩ : ∃ c,c = bt S x:=⟨_,rfl⟩
    have hbt : ∀ h : x.toNat < S.size,((S[x.toNat]'h).toNat : Int) = c:=fun h=>by rw [hc];exact bt_at S x h
    have hat:=orders_at ⟨x.toNat,by omega⟩;simp only [Int.toNat_of_nonneg hx0] at hat;rw [← HS.out,← hc] at hat;have hcell : ∀ (b : Nat) v,wA.cell? ⟨0,b,none⟩ = some v → wr.cell? ⟨0,b,none⟩ = some v:=fun b v h=>(World.cell?_of_block (a:=⟨0,b,none⟩) (hG.block 0 (World.block_lt_of_cell? _ _ h) (by have:=HNE.out;simp;exact fun e=>this e.symm))).trans h
    rcases hat with ⟨hm,hc32⟩ | ⟨hm,hcd⟩
    ·subst hc32;have hs:=hcell _ _ HS1.out.2;obtain ⟨c1,hc1⟩ : ∃ c,c = bt S (x + 1):=⟨_,rfl⟩
     have hbt1 : ∀ h : (x + 1).toNat < S.size,((S[(x + 1).toNat]'h).toNat : Int) = c1:=fun h=>by rw [hc1];exact bt_at S (x + 1) h
     have hat1:=orders_at ⟨x.toNat + 1,by omega⟩;simp only [show ((x.toNat + 1 : Nat) : Int) = x + 1 by omega] at hat1;rw [← HS.out,← hc1] at hat1
     have hcd1 : 48 ≤ c1 ∧ c1 ≤ 57 ∨ 97 ≤ c1 ∧ c1 ≤ 102:=by
      rcases hat1 with ⟨h,_⟩ | ⟨_,h⟩
      ·omega
      ·exact h
     have hs1:=hcell _ _ (HS1.out.1 c1 hcd1)
     have c10 : 0 ≤ c1:=by omega
     have c11 : c1 < 256:=by omega
     have n00 : 0 ≤ n0:=by omega
     have n01 : n0 < 10:=by omega
     have f00 : 0 ≤ f0:=by omega
     have f01 : f0 ≤ x:=by omega
     have x1' : x + 1 < (S.size : Int):=by omega
     have x10 : 0 ≤ x + 1:=by omega
     have d1 : decide (x + 1 < (S.size : Int)) = true:=decide_eq_true x1'
     have nn : n0.toNat = (x / 17).toNat:=by omega
     have sc : wr.cell? ⟨gA,n0.toNat,none⟩ = some (.string ByteArray.empty):=by
      have:=hR n0.toNat _ (by rw [nn];exact rowsTo_at _ (by omega));rwa [Nat.zero_add] at this
     have sf : wr.frozen? ⟨gA,n0.toNat,none⟩ = false:=by
      have:=(hTh n0.toNat (by omega)).2;rwa [Nat.zero_add] at this
     obtain ⟨sub,hsub⟩ : ∃ s,S.extract f0.toNat x.toNat = s:=⟨_,rfl⟩
     have hsub1 : sub = rowOf n0.toNat:=by
      rw [← hsub,HS.out,← rows_cut ⟨n0.toNat,by omega⟩]
      congr 1 <;> simp only <;> omega
     have HX:=am hx.out;have Hm:=am hm;have Hlt:=am hlt;have Hsub:=am hsub1;have Hn:=am nn;clear hm hn hf hR hTh hG hx hc hcell hlt hcd1 hat1 hc1 nn hsub1
     go_upto_region 25 with (fail)
     obtain ⟨⟨_,_⟩,hn,hf,hR,hTh,hG⟩:=HX.out;have n0_:=arr_set_range hR (by rw [rowsTo_length];exact hTh) n0.toNat (by rw [rowsTo_length];omega) (.string sub)
     have e_ : (rowsTo (x / 17).toNat).set n0.toNat (.string sub) = rowsTo ((x / 17).toNat + 1):=by rw [Hsub.out,Hn.out];exact rowsTo_set _ (by omega)
     rw [e_] at n0_;have n1_:=there_setCell hTh gA n0.toNat (.string sub);have n2_:=grown_set hG n0.toNat (.string sub);have n3_:=(World.cell?_setCell_other wr ⟨gA,n0.toNat,none⟩ ⟨0,c1.toNat,none⟩ (.string sub) (by intro q;injection q with q1;first | exact HNE.out q1 | exact HNE.out q1.symm)).trans hs1;generalize World.setCell _ _ _ = wB at n0_ n1_ n2_ n3_ ⊢;have N0:=am n0_;have N1:=am n1_;have N2:=am n2_;have Hf:=am hf;have Hnn:=am hn;clear n0_ n1_ n2_ hn hf hR hTh hG HX hs hs1 sc sf hsub
     go_wp2
     go_loopw [12] (fun i wr=>i = .int .i64 (x + 1) ∧ wr = wB) (fun _ _=>0)
     case atStart=>exact ⟨rfl,rfl⟩
     case round=>
      obtain ⟨rfl,rfl⟩:=hrel
      go_wp2
      have hm:=Hm.out;have hlt:=Hlt.out;have hn:=Hnn.out;have hf:=Hf.out
      have e : ((x + 1) / 17).toNat = (x / 17).toNat + 1:=by omega
      exact ⟨⟨x + 1,n0 + 1,x + 1,rfl,rfl,rfl,⟨⟨by omega,by omega⟩,by omega,by omega,by rw [e];exact N0.out,N1.out,N2.out⟩⟩,by simp [intOf];omega⟩
    ·have hs:=hcell _ _ (HS1.out.1 c hcd)
     have c0 : 0 ≤ c:=by omega
     have c1 : c < 256:=by omega
     have HX:=am hx.out;have Hm:=am hm;have Hlt:=am hlt;clear hm hn hf hR hTh hG hx hc hcell hcd hx1 hlt
     go_wp2
     have hm:=Hm.out;obtain ⟨⟨hx0,hx1⟩,hn,hf,hR,hTh,hG⟩:=HX.out
     have e : (x + 1) / 17 = x / 17:=by omega
     exact ⟨⟨x + 1,n0,f0,rfl,rfl,rfl,⟨⟨by omega,by omega⟩,by omega,by omega,by rw [e];exact hR,hTh,hG⟩⟩,by have:=Hlt.out;simp [intOf];omega⟩
end Go.Proofs.YtilckocpgififaaDoor.G
/- blake.mixes: four words of an array are mixed with two (laid by mkblake.py) -/
namespace Go.Proofs.YtilckocpgififaaDoor.G
open Go.RowKit Go.Proofs.YtilckocpgififaaDoorW.PrintWords Go.Proofs.YtilckocpgififaaDoorW.PrintLast Go.Proofs.YtilckocpgififaaDoorW.PrintMore
set_option linter.unusedVariables false
set_option linter.unusedSimpArgs false
def blake_mixes.step (k : Nat) (V : List Int) (a b c d : Nat) (x y : Int) : List Int:=match k with
 | 0=>V.set a (wr (V.getD a 0 + wr (V.getD b 0 + x)))
 | 1=>V.set d (rotP 32 (Go.bits .xor .u64 (V.getD d 0) (V.getD a 0)))
 | 2=>V.set c (wr (V.getD c 0 + V.getD d 0))
 | 3=>V.set b (rotP 24 (Go.bits .xor .u64 (V.getD b 0) (V.getD c 0)))
 | 4=>V.set a (wr (V.getD a 0 + wr (V.getD b 0 + y)))
 | 5=>V.set d (rotP 16 (Go.bits .xor .u64 (V.getD d 0) (V.getD a 0)))
 | 6=>V.set c (wr (V.getD c 0 + V.getD d 0))
 | 7=>V.set b (rotP 63 (Go.bits .xor .u64 (V.getD b 0) (V.getD c 0)))
 | _=>V
def blake_mixes.f (V : List Int) (a b c d : Nat) (x y : Int) : List Int:=[0,1,2,3,4,5,6,7].foldl (fun V k=>blake_mixes.step k V a b c d x y) V
theorem blake_mixes.step_length (k : Nat) (V : List Int) (a b c d : Nat) (x y : Int) : (blake_mixes.step k V a b c d x y).length = V.length:=by
 unfold blake_mixes.step;split <;> simp
def blake_mixes_r0.T : Bool × List (List Nat × List Nat):=(true,[([],[]),([],[]),([0],[0]),([2,1],[1,2]),([3],[3]),([],[]),([],[]),([5],[5]),([7,6],[6,7]),([8],[8]),([],[]),([9,10],[9,10]),([4,11],[4,11]),([0],[0]),([13,1,0,1,2,3,4,5,6,7,8,9,10,11,12],[1,13]),([14,12,0,1,2,3,4,5,6,7,8,9,10,11,12],[12,14])])
def blake_mixes_r0.B : List Nat:=[0,0,1,7,15,0,0,32,224,480,0,2016,4095,1,16383,32767]
theorem blake_mixes_r0.tab : rtab .any (opsOf Tryd.f79 0) = blake_mixes_r0.T:=by kernel_rfl
theorem blake_mixes_r0.bits : waitsOk blake_mixes_r0.T.2 blake_mixes_r0.B = true:=by kernel_rfl
def blake_mixes_r1.T : Bool × List (List Nat × List Nat):=(true,[([],[]),([],[]),([],[]),([],[]),([2],[2]),([4,3],[3,4]),([5],[5]),([],[]),([],[]),([7],[7]),([9,8],[8,9]),([10],[10]),([6,11],[6,11]),([12],[12]),([0],[0]),([14,1,0,1,2,3,4,5,6,7,8,9,10,11,12,13],[1,14]),([15,13,13,0,1,2,3,4,5,6,7,8,9,10,11,12,13],[13,15])])
def blake_mixes_r1.B : List Nat:=[0,0,0,0,4,28,60,0,0,128,896,1920,4092,8188,1,32767,65535]
theorem blake_mixes_r1.tab : rtab .any (opsOf Tryd.f79 1) = blake_mixes_r1.T:=by kernel_rfl
theorem blake_mixes_r1.bits : waitsOk blake_mixes_r1.T.2 blake_mixes_r1.B = true:=by kernel_rfl
def blake_mixes_r2.T : Bool × List (List Nat × List Nat):=(true,[([],[]),([],[]),([0],[0]),([2,1],[1,2]),([3],[3]),([],[]),([],[]),([5],[5]),([7,6],[6,7]),([8],[8]),([4,9],[4,9]),([0],[0]),([11,1,0,1,2,3,4,5,6,7,8,9,10],[1,11]),([12,10,0,1,2,3,4,5,6,7,8,9,10],[10,12])])
def blake_mixes_r2.B : List Nat:=[0,0,1,7,15,0,0,32,224,480,1023,1,4095,8191]
theorem blake_mixes_r2.tab : rtab .any (opsOf Tryd.f79 2) = blake_mixes_r2.T:=by kernel_rfl
theorem blake_mixes_r2.bits : waitsOk blake_mixes_r2.T.2 blake_mixes_r2.B = true:=by kernel_rfl
def blake_mixes_r3.T : Bool × List (List Nat × List Nat):=(true,[([],[]),([],[]),([],[]),([],[]),([2],[2]),([4,3],[3,4]),([5],[5]),([],[]),([],[]),([7],[7]),([9,8],[8,9]),([10],[10]),([6,11],[6,11]),([12],[12]),([0],[0]),([14,1,0,1,2,3,4,5,6,7,8,9,10,11,12,13],[1,14]),([15,13,13,0,1,2,3,4,5,6,7,8,9,10,11,12,13],[13,15])])
def blake_mixes_r3.B : List Nat:=[0,0,0,0,4,28,60,0,0,128,896,1920,4092,8188,1,32767,65535]
theorem blake_mixes_r3.tab : rtab .any (opsOf Tryd.f79 3) = blake_mixes_r3.T:=by kernel_rfl
theorem blake_mixes_r3.bits : waitsOk blake_mixes_r3.T.2 blake_mixes_r3.B = true:=by kernel_rfl
def blake_mixes_r4.T : Bool × List (List Nat × List Nat):=(true,[([],[]),([],[]),([0],[0]),([2,1],[1,2]),([3],[3]),([],[]),([],[]),([5],[5]),([7,6],[6,7]),([8],[8]),([],[]),([9,10],[9,10]),([4,11],[4,11]),([0],[0]),([13,1,0,1,2,3,4,5,6,7,8,9,10,11,12],[1,13]),([14,12,0,1,2,3,4,5,6,7,8,9,10,11,12],[12,14])])
def blake_mixes_r4.B : List Nat:=[0,0,1,7,15,0,0,32,224,480,0,2016,4095,1,16383,32767]
theorem blake_mixes_r4.tab : rtab .any (opsOf Tryd.f79 4) = blake_mixes_r4.T:=by kernel_rfl
theorem blake_mixes_r4.bits : waitsOk blake_mixes_r4.T.2 blake_mixes_r4.B = true:=by kernel_rfl
def blake_mixes_r5.T : Bool × List (List Nat × List Nat):=(true,[([],[]),([],[]),([],[]),([],[]),([2],[2]),([4,3],[3,4]),([5],[5]),([],[]),([],[]),([7],[7]),([9,8],[8,9]),([10],[10]),([6,11],[6,11]),([12],[12]),([0],[0]),([14,1,0,1,2,3,4,5,6,7,8,9,10,11,12,13],[1,14]),([15,13,13,0,1,2,3,4,5,6,7,8,9,10,11,12,13],[13,15])])
def blake_mixes_r5.B : List Nat:=[0,0,0,0,4,28,60,0,0,128,896,1920,4092,8188,1,32767,65535]
theorem blake_mixes_r5.tab : rtab .any (opsOf Tryd.f79 5) = blake_mixes_r5.T:=by kernel_rfl
theorem blake_mixes_r5.bits : waitsOk blake_mixes_r5.T.2 blake_mixes_r5.B = true:=by kernel_rfl
def blake_mixes_r6.T : Bool × List (List Nat × List Nat):=(true,[([],[]),([],[]),([0],[0]),([2,1],[1,2]),([3],[3]),([],[]),([],[]),([5],[5]),([7,6],[6,7]),([8],[8]),([4,9],[4,9]),([0],[0]),([11,1,0,1,2,3,4,5,6,7,8,9,10],[1,11]),([12,10,0,1,2,3,4,5,6,7,8,9,10],[10,12])])
def blake_mixes_r6.B : List Nat:=[0,0,1,7,15,0,0,32,224,480,1023,1,4095,8191]
theorem blake_mixes_r6.tab : rtab .any (opsOf Tryd.f79 6) = blake_mixes_r6.T:=by kernel_rfl
theorem blake_mixes_r6.bits : waitsOk blake_mixes_r6.T.2 blake_mixes_r6.B = true:=by kernel_rfl
def blake_mixes_r7.T : Bool × List (List Nat × List Nat):=(true,[([],[]),([],[]),([],[]),([],[]),([2],[2]),([4,3],[3,4]),([5],[5]),([],[]),([],[]),([7],[7]),([9,8],[8,9]),([10],[10]),([6,11],[6,11]),([12],[12]),([0],[0]),([14,1,0,1,2,3,4,5,6,7,8,9,10,11,12,13],[1,14]),([15,13,13,0,1,2,3,4,5,6,7,8,9,10,11,12,13],[13,15])])
def blake_mixes_r7.B : List Nat:=[0,0,0,0,4,28,60,0,0,128,896,1920,4092,8188,1,32767,65535]
theorem blake_mixes_r7.tab : rtab .any (opsOf Tryd.f79 7) = blake_mixes_r7.T:=by kernel_rfl
theorem blake_mixes_r7.bits : waitsOk blake_mixes_r7.T.2 blake_mixes_r7.B = true:=by kernel_rfl
def blake_mixes_r0.l0 : Array Bool:=bl 16 1
def blake_mixes_r0.l1 : Array Bool:=bl 16 3
def blake_mixes_r0.l2 : Array Bool:=bl 16 7
def blake_mixes_r0.l3 : Array Bool:=bl 16 15
def blake_mixes_r0.l4 : Array Bool:=bl 16 31
def blake_mixes_r0.l5 : Array Bool:=bl 16 63
def blake_mixes_r0.l6 : Array Bool:=bl 16 127
def blake_mixes_r0.l7 : Array Bool:=bl 16 255
def blake_mixes_r0.l8 : Array Bool:=bl 16 511
def blake_mixes_r0.l9 : Array Bool:=bl 16 1023
def blake_mixes_r0.l10 : Array Bool:=bl 16 2047
def blake_mixes_r0.l11 : Array Bool:=bl 16 4095
def blake_mixes_r0.l12 : Array Bool:=bl 16 8191
def blake_mixes_r0.l13 : Array Bool:=bl 16 16383
def blake_mixes_r0.l14 : Array Bool:=bl 16 32767
def blake_mixes_r0.l15 : Array Bool:=bl 16 65535
def blake_mixes_r1.l0 : Array Bool:=bl 17 1
def blake_mixes_r1.l1 : Array Bool:=bl 17 3
def blake_mixes_r1.l2 : Array Bool:=bl 17 7
def blake_mixes_r1.l3 : Array Bool:=bl 17 15
def blake_mixes_r1.l4 : Array Bool:=bl 17 31
def blake_mixes_r1.l5 : Array Bool:=bl 17 63
def blake_mixes_r1.l6 : Array Bool:=bl 17 127
def blake_mixes_r1.l7 : Array Bool:=bl 17 255
def blake_mixes_r1.l8 : Array Bool:=bl 17 511
def blake_mixes_r1.l9 : Array Bool:=bl 17 1023
def blake_mixes_r1.l10 : Array Bool:=bl 17 2047
def blake_mixes_r1.l11 : Array Bool:=bl 17 4095
def blake_mixes_r1.l12 : Array Bool:=bl 17 8191
def blake_mixes_r1.l13 : Array Bool:=bl 17 24575
def blake_mixes_r1.l14 : Array Bool:=bl 17 32767
def blake_mixes_r1.l15 : Array Bool:=bl 17 65535
def blake_mixes_r1.l16 : Array Bool:=bl 17 131071
def blake_mixes_r2.l0 : Array Bool:=bl 14 1
def blake_mixes_r2.l1 : Array Bool:=bl 14 3
def blake_mixes_r2.l2 : Array Bool:=bl 14 7
def blake_mixes_r2.l3 : Array Bool:=bl 14 15
def blake_mixes_r2.l4 : Array Bool:=bl 14 31
def blake_mixes_r2.l5 : Array Bool:=bl 14 63
def blake_mixes_r2.l6 : Array Bool:=bl 14 127
def blake_mixes_r2.l7 : Array Bool:=bl 14 255
def blake_mixes_r2.l8 : Array Bool:=bl 14 511
def blake_mixes_r2.l9 : Array Bool:=bl 14 1023
def blake_mixes_r2.l10 : Array Bool:=bl 14 2047
def blake_mixes_r2.l11 : Array Bool:=bl 14 4095
def blake_mixes_r2.l12 : Array Bool:=bl 14 8191
def blake_mixes_r2.l13 : Array Bool:=bl 14 16383
def blake_mixes_r3.l0 : Array Bool:=bl 17 1
def blake_mixes_r3.l1 : Array Bool:=bl 17 3
def blake_mixes_r3.l2 : Array Bool:=bl 17 7
def blake_mixes_r3.l3 : Array Bool:=bl 17 15
def blake_mixes_r3.l4 : Array Bool:=bl 17 31
def blake_mixes_r3.l5 : Array Bool:=bl 17 63
def blake_mixes_r3.l6 : Array Bool:=bl 17 127
def blake_mixes_r3.l7 : Array Bool:=bl 17 255
def blake_mixes_r3.l8 : Array Bool:=bl 17 511
def blake_mixes_r3.l9 : Array Bool:=bl 17 1023
def blake_mixes_r3.l10 : Array Bool:=bl 17 2047
def blake_mixes_r3.l11 : Array Bool:=bl 17 4095
def blake_mixes_r3.l12 : Array Bool:=bl 17 8191
def blake_mixes_r3.l13 : Array Bool:=bl 17 24575
def blake_mixes_r3.l14 : Array Bool:=bl 17 32767
def blake_mixes_r3.l15 : Array Bool:=bl 17 65535
def blake_mixes_r3.l16 : Array Bool:=bl 17 131071
def blake_mixes_r4.l0 : Array Bool:=bl 16 1
def blake_mixes_r4.l1 : Array Bool:=bl 16 3
def blake_mixes_r4.l2 : Array Bool:=bl 16 7
def blake_mixes_r4.l3 : Array Bool:=bl 16 15
def blake_mixes_r4.l4 : Array Bool:=bl 16 31
def blake_mixes_r4.l5 : Array Bool:=bl 16 63
def blake_mixes_r4.l6 : Array Bool:=bl 16 127
def blake_mixes_r4.l7 : Array Bool:=bl 16 255
def blake_mixes_r4.l8 : Array Bool:=bl 16 511
def blake_mixes_r4.l9 : Array Bool:=bl 16 1023
def blake_mixes_r4.l10 : Array Bool:=bl 16 2047
def blake_mixes_r4.l11 : Array Bool:=bl 16 4095
def blake_mixes_r4.l12 : Array Bool:=bl 16 8191
def blake_mixes_r4.l13 : Array Bool:=bl 16 16383
def blake_mixes_r4.l14 : Array Bool:=bl 16 32767
def blake_mixes_r4.l15 : Array Bool:=bl 16 65535
def blake_mixes_r5.l0 : Array Bool:=bl 17 1
def blake_mixes_r5.l1 : Array Bool:=bl 17 3
def blake_mixes_r5.l2 : Array Bool:=bl 17 7
def blake_mixes_r5.l3 : Array Bool:=bl 17 15
def blake_mixes_r5.l4 : Array Bool:=bl 17 31
def blake_mixes_r5.l5 : Array Bool:=bl 17 63
def blake_mixes_r5.l6 : Array Bool:=bl 17 127
def blake_mixes_r5.l7 : Array Bool:=bl 17 255
def blake_mixes_r5.l8 : Array Bool:=bl 17 511
def blake_mixes_r5.l9 : Array Bool:=bl 17 1023
def blake_mixes_r5.l10 : Array Bool:=bl 17 2047
def blake_mixes_r5.l11 : Array Bool:=bl 17 4095
def blake_mixes_r5.l12 : Array Bool:=bl 17 8191
def blake_mixes_r5.l13 : Array Bool:=bl 17 24575
def blake_mixes_r5.l14 : Array Bool:=bl 17 32767
def blake_mixes_r5.l15 : Array Bool:=bl 17 65535
def blake_mixes_r5.l16 : Array Bool:=bl 17 131071
def blake_mixes_r6.l0 : Array Bool:=bl 14 1
def blake_mixes_r6.l1 : Array Bool:=bl 14 3
def blake_mixes_r6.l2 : Array Bool:=bl 14 7
def blake_mixes_r6.l3 : Array Bool:=bl 14 15
def blake_mixes_r6.l4 : Array Bool:=bl 14 31
def blake_mixes_r6.l5 : Array Bool:=bl 14 63
def blake_mixes_r6.l6 : Array Bool:=bl 14 127
def blake_mixes_r6.l7 : Array Bool:=bl 14 255
def blake_mixes_r6.l8 : Array Bool:=bl 14 511
def blake_mixes_r6.l9 : Array Bool:=bl 14 1023
def blake_mixes_r6.l10 : Array Bool:=bl 14 2047
def blake_mixes_r6.l11 : Array Bool:=bl 14 4095
def blake_mixes_r6.l12 : Array Bool:=bl 14 8191
def blake_mixes_r6.l13 : Array Bool:=bl 14 16383
def blake_mixes_r7.l0 : Array Bool:=bl 17 1
def blake_mixes_r7.l1 : Array Bool:=bl 17 3
def blake_mixes_r7.l2 : Array Bool:=bl 17 7
def blake_mixes_r7.l3 : Array Bool:=bl 17 15
def blake_mixes_r7.l4 : Array Bool:=bl 17 31
def blake_mixes_r7.l5 : Array Bool:=bl 17 63
def blake_mixes_r7.l6 : Array Bool:=bl 17 127
def blake_mixes_r7.l7 : Array Bool:=bl 17 255
def blake_mixes_r7.l8 : Array Bool:=bl 17 511
def blake_mixes_r7.l9 : Array Bool:=bl 17 1023
def blake_mixes_r7.l10 : Array Bool:=bl 17 2047
def blake_mixes_r7.l11 : Array Bool:=bl 17 4095
def blake_mixes_r7.l12 : Array Bool:=bl 17 8191
def blake_mixes_r7.l13 : Array Bool:=bl 17 24575
def blake_mixes_r7.l14 : Array Bool:=bl 17 32767
def blake_mixes_r7.l15 : Array Bool:=bl 17 65535
def blake_mixes_r7.l16 : Array Bool:=bl 17 131071
set_option maxRecDepth 100000 in
set_option maxHeartbeats 16000000 in
theorem blake_mixes.calls (g a b c d : Nat) (V0 : List Int) (x y : Int) (w : World) (ha : a < 16) (hb : b < 16) (hc : c < 16) (hd : d < 16) (hL0 : V0.length = 16) (hA : Arr w g V0) :
 Calls Tryd.prog 79 #[.pointer (some ⟨g,0,none⟩),.int .i64 a,.int .i64 b,.int .i64 c,.int .i64 d,.int .u64 x,.int .u64 y] w fun e w'=>e = .returned (.tuple #[]) ∧ Arr w' g (blake_mixes.f V0 a b c d x y) ∧ w.grownBy w' (some g):=by
 have HA:=am hA;have HG:=am (World.grownBy.refl w (some g));clear hA
 have ba : (a : Int) < 16:=by omega
 have bb : (b : Int) < 16:=by omega
 have bc : (c : Int) < 16:=by omega
 have bd : (d : Int) < 16:=by omega
 go_enter Tryd.func79,Tryd.ntmps79;have hA0:=HA.out;have s0:=hA0.cell a (by omega);have s1:=hA0.cell b (by omega);have s2:=hA0.frozen a (by omega);clear hA0;obtain ⟨v_p0,hv_p⟩ : ∃ v,v = V0.getD a 0:=⟨_,rfl⟩;obtain ⟨v_q0,hv_q⟩ : ∃ v,v = V0.getD b 0:=⟨_,rfl⟩;rw [← hv_p] at s0;rw [← hv_q] at s1;have Hv_p:=am hv_p;have Hv_q:=am hv_q;clear hv_p hv_q
 go_upto_region 0 with (fail)
 refine start_ (n:=16) (S:=fun w'=>w'.cell? ⟨g,a,none⟩ = some (.int .u64 (v_p0)) ∧ w'.cell? ⟨g,b,none⟩ = some (.int .u64 (v_q0)) ∧ w'.frozen? ⟨g,a,none⟩ = false) (ds:=[15]) (bl 16 0) (by kernel_rfl) rfl rfl ⟨s0,s1,s2⟩ (fun hHeld=>?_);refine with_tabW blake_mixes_r0.tab blake_mixes_r0.bits (fun HT_ HW_=>?_);refine p_ HT_ 0 (some 14) blake_mixes_r0.l0 ?_;refine p_ HT_ 1 (some 15) blake_mixes_r0.l1 ?_;refine p_ HT_ 2 (some 16) blake_mixes_r0.l2 ?_;refine p_ HT_ 3 (some 17) blake_mixes_r0.l3 ?_;refine tk HT_ HW_ hHeld 4 (some 18) blake_mixes_r0.l4 (hr:=by intro w' hs_;obtain ⟨s0,s1,s2⟩:=hs_;go_simp;with_reducible rfl) (h:=?_);refine p_ HT_ 5 (some 19) blake_mixes_r0.l5 ?_;refine p_ HT_ 6 (some 20) blake_mixes_r0.l6 ?_;refine p_ HT_ 7 (some 21) blake_mixes_r0.l7 ?_;refine p_ HT_ 8 (some 22) blake_mixes_r0.l8 ?_;refine tk HT_ HW_ hHeld 9 (some 23) blake_mixes_r0.l9 (hr:=by intro w' hs_;obtain ⟨s0,s1,s2⟩:=hs_;go_simp;with_reducible rfl) (h:=?_);refine p_ HT_ 10 (some 24) blake_mixes_r0.l10 ?_;refine p_ HT_ 11 (some 25) blake_mixes_r0.l11 ?_;refine p_ HT_ 12 (some 26) blake_mixes_r0.l12 ?_;refine p_ HT_ 13 (some 27) blake_mixes_r0.l13 ?_;refine p_ HT_ 14 (some 28) blake_mixes_r0.l14 ?_;refine last_ (i:=15) (N:=none) blake_mixes_r0.l15 rfl rfl (one_of HT_.out (by kernel_rfl)) (by decide) (fun K hK=>?_);clear hHeld;refine skip_ (w1:=World.setCell w.drew ⟨g,a,none⟩ (.int .u64 (wr (v_p0 + wr (v_q0 + x))))) (by rfl) rfl ?_ ?_
 ·go_simp
 refine hK.out _ _ ?_;clear hK K;refine done_ (done_of HT_.out (by kernel_rfl)) ?_;clear s0 s1 s2;clear HT_ HW_;obtain ⟨V1,hV1⟩ : ∃ V',V' = blake_mixes.step 0 V0 a b c d x y:=⟨_,rfl⟩
 have hL1 : V1.length = 16:=by rw [hV1,blake_mixes.step_length];exact hL0
 have n0_:=HA.out.drew.set a (by omega) (wr (v_p0 + wr (v_q0 + x)));rw [show V0.set a (wr (v_p0 + wr (v_q0 + x))) = V1 by rw [hV1,Hv_p.out,Hv_q.out];rfl] at n0_;have n1_:=grown_set (grown_drew HG.out) a (.int .u64 (wr (v_p0 + wr (v_q0 + x))));generalize World.setCell _ _ _ = w1 at n0_ n1_ ⊢;clear HA HG;have HA:=am n0_;have HG:=am n1_;clear n0_ n1_ Hv_p Hv_q;have hA1:=HA.out;have s0:=hA1.cell d (by omega);have s1:=hA1.cell a (by omega);have s2:=hA1.frozen d (by omega);clear hA1;obtain ⟨v_p1,hv_p⟩ : ∃ v,v = V1.getD d 0:=⟨_,rfl⟩;obtain ⟨v_q1,hv_q⟩ : ∃ v,v = V1.getD a 0:=⟨_,rfl⟩;rw [← hv_p] at s0;rw [← hv_q] at s1;have Hv_p:=am hv_p;have Hv_q:=am hv_q;clear hv_p hv_q
 go_upto_region 1 with (fail)
 refine start_ (n:=17) (S:=fun w'=>w'.cell? ⟨g,d,none⟩ = some (.int .u64 (v_p1)) ∧ w'.cell? ⟨g,a,none⟩ = some (.int .u64 (v_q1)) ∧ w'.frozen? ⟨g,d,none⟩ = false) (ds:=[16]) (bl 17 0) (by kernel_rfl) rfl rfl ⟨s0,s1,s2⟩ (fun hHeld=>?_);refine with_tabW blake_mixes_r1.tab blake_mixes_r1.bits (fun HT_ HW_=>?_);refine p_ HT_ 0 (some 29) blake_mixes_r1.l0 ?_;refine p_ HT_ 1 (some 30) blake_mixes_r1.l1 ?_;refine p_ HT_ 2 (some 31) blake_mixes_r1.l2 ?_;refine p_ HT_ 3 (some 32) blake_mixes_r1.l3 ?_;refine p_ HT_ 4 (some 33) blake_mixes_r1.l4 ?_;refine p_ HT_ 5 (some 34) blake_mixes_r1.l5 ?_;refine tk HT_ HW_ hHeld 6 (some 35) blake_mixes_r1.l6 (hr:=by intro w' hs_;obtain ⟨s0,s1,s2⟩:=hs_;go_simp;with_reducible rfl) (h:=?_);refine p_ HT_ 7 (some 36) blake_mixes_r1.l7 ?_;refine p_ HT_ 8 (some 37) blake_mixes_r1.l8 ?_;refine p_ HT_ 9 (some 38) blake_mixes_r1.l9 ?_;refine p_ HT_ 10 (some 39) blake_mixes_r1.l10 ?_;refine tk HT_ HW_ hHeld 11 (some 40) blake_mixes_r1.l11 (hr:=by intro w' hs_;obtain ⟨s0,s1,s2⟩:=hs_;go_simp;with_reducible rfl) (h:=?_);refine p_ HT_ 12 (some 41) blake_mixes_r1.l12 ?_;refine p_ HT_ 14 (some 43) blake_mixes_r1.l13 ?_;refine o_ HT_ 13 (some 42) blake_mixes_r1.l14 fun K hK=>?_;refine gs Tryd.func83 #[.int .u64 (Go.bits .xor .u64 v_p1 v_q1),.int .i64 (-32)] ?_;refine (bits_RotateLeft64.calls _ _ _ _ (rotP_some32 _)).mono ?_;rintro e w9 ⟨rfl,⟨m_,rfl⟩⟩;refine ⟨_,rfl,?_⟩;refine hK.out _ _ hHeld (fun hHeld=>?_);clear hK K;refine nm (some 42) ?_;refine p_ HT_ 15 (some 44) blake_mixes_r1.l15 ?_;refine last_ (i:=16) (N:=none) blake_mixes_r1.l16 rfl rfl (one_of HT_.out (by kernel_rfl)) (by decide) (fun K hK=>?_);clear hHeld;refine skip_ (w1:=World.setCell (w1.drew.drewN m_) ⟨g,d,none⟩ (.int .u64 (rotP 32 (Go.bits .xor .u64 v_p1 v_q1)))) (by rfl) rfl ?_ ?_
 ·go_simp
 refine hK.out _ _ ?_;clear hK K;refine done_ (done_of HT_.out (by kernel_rfl)) ?_;clear s0 s1 s2;clear HT_ HW_;obtain ⟨V2,hV2⟩ : ∃ V',V' = blake_mixes.step 1 V1 a b c d x y:=⟨_,rfl⟩
 have hL2 : V2.length = 16:=by rw [hV2,blake_mixes.step_length];exact hL1
 have n0_:=(HA.out.drew.drewN m_).set d (by omega) (rotP 32 (Go.bits .xor .u64 v_p1 v_q1));rw [show V1.set d (rotP 32 (Go.bits .xor .u64 v_p1 v_q1)) = V2 by rw [hV2,Hv_p.out,Hv_q.out];rfl] at n0_;have n1_:=grown_set (grown_drewN (grown_drew HG.out) m_) d (.int .u64 (rotP 32 (Go.bits .xor .u64 v_p1 v_q1)));generalize World.setCell _ _ _ = w2 at n0_ n1_ ⊢;clear HA HG;have HA:=am n0_;have HG:=am n1_;clear n0_ n1_ Hv_p Hv_q;have hA2:=HA.out;have s0:=hA2.cell c (by omega);have s1:=hA2.cell d (by omega);have s2:=hA2.frozen c (by omega);clear hA2;obtain ⟨v_p2,hv_p⟩ : ∃ v,v = V2.getD c 0:=⟨_,rfl⟩;obtain ⟨v_q2,hv_q⟩ : ∃ v,v = V2.getD d 0:=⟨_,rfl⟩;rw [← hv_p] at s0;rw [← hv_q] at s1;have Hv_p:=am hv_p;have Hv_q:=am hv_q;clear hv_p hv_q
 go_upto_region 2 with (fail)
 refine start_ (n:=14) (S:=fun w'=>w'.cell? ⟨g,c,none⟩ = some (.int .u64 (v_p2)) ∧ w'.cell? ⟨g,d,none⟩ = some (.int .u64 (v_q2)) ∧ w'.frozen? ⟨g,c,none⟩ = false) (ds:=[13]) (bl 14 0) (by kernel_rfl) rfl rfl ⟨s0,s1,s2⟩ (fun hHeld=>?_);refine with_tabW blake_mixes_r2.tab blake_mixes_r2.bits (fun HT_ HW_=>?_);refine p_ HT_ 0 (some 45) blake_mixes_r2.l0 ?_;refine p_ HT_ 1 (some 46) blake_mixes_r2.l1 ?_;refine p_ HT_ 2 (some 47) blake_mixes_r2.l2 ?_;refine p_ HT_ 3 (some 48) blake_mixes_r2.l3 ?_;refine tk HT_ HW_ hHeld 4 (some 49) blake_mixes_r2.l4 (hr:=by intro w' hs_;obtain ⟨s0,s1,s2⟩:=hs_;go_simp;with_reducible rfl) (h:=?_);refine p_ HT_ 5 (some 50) blake_mixes_r2.l5 ?_;refine p_ HT_ 6 (some 51) blake_mixes_r2.l6 ?_;refine p_ HT_ 7 (some 52) blake_mixes_r2.l7 ?_;refine p_ HT_ 8 (some 53) blake_mixes_r2.l8 ?_;refine tk HT_ HW_ hHeld 9 (some 54) blake_mixes_r2.l9 (hr:=by intro w' hs_;obtain ⟨s0,s1,s2⟩:=hs_;go_simp;with_reducible rfl) (h:=?_);refine p_ HT_ 10 (some 55) blake_mixes_r2.l10 ?_;refine p_ HT_ 11 (some 56) blake_mixes_r2.l11 ?_;refine p_ HT_ 12 (some 57) blake_mixes_r2.l12 ?_;refine last_ (i:=13) (N:=none) blake_mixes_r2.l13 rfl rfl (one_of HT_.out (by kernel_rfl)) (by decide) (fun K hK=>?_);clear hHeld;refine skip_ (w1:=World.setCell w2.drew ⟨g,c,none⟩ (.int .u64 (wr (v_p2 + v_q2)))) (by rfl) rfl ?_ ?_
 ·go_simp
 refine hK.out _ _ ?_;clear hK K;refine done_ (done_of HT_.out (by kernel_rfl)) ?_;clear s0 s1 s2;clear HT_ HW_;obtain ⟨V3,hV3⟩ : ∃ V',V' = blake_mixes.step 2 V2 a b c d x y:=⟨_,rfl⟩
 have hL3 : V3.length = 16:=by rw [hV3,blake_mixes.step_length];exact hL2
 have n0_:=HA.out.drew.set c (by omega) (wr (v_p2 + v_q2));rw [show V2.set c (wr (v_p2 + v_q2)) = V3 by rw [hV3,Hv_p.out,Hv_q.out];rfl] at n0_;have n1_:=grown_set (grown_drew HG.out) c (.int .u64 (wr (v_p2 + v_q2)));generalize World.setCell _ _ _ = w3 at n0_ n1_ ⊢;clear HA HG;have HA:=am n0_;have HG:=am n1_;clear n0_ n1_ Hv_p Hv_q;have hA3:=HA.out;have s0:=hA3.cell b (by omega);have s1:=hA3.cell c (by omega);have s2:=hA3.frozen b (by omega);clear hA3;obtain ⟨v_p3,hv_p⟩ : ∃ v,v = V3.getD b 0:=⟨_,rfl⟩;obtain ⟨v_q3,hv_q⟩ : ∃ v,v = V3.getD c 0:=⟨_,rfl⟩;rw [← hv_p] at s0;rw [← hv_q] at s1;have Hv_p:=am hv_p;have Hv_q:=am hv_q;clear hv_p hv_q
 go_upto_region 3 with (fail)
 refine start_ (n:=17) (S:=fun w'=>w'.cell? ⟨g,b,none⟩ = some (.int .u64 (v_p3)) ∧ w'.cell? ⟨g,c,none⟩ = some (.int .u64 (v_q3)) ∧ w'.frozen? ⟨g,b,none⟩ = false) (ds:=[16]) (bl 17 0) (by kernel_rfl) rfl rfl ⟨s0,s1,s2⟩ (fun hHeld=>?_);refine with_tabW blake_mixes_r3.tab blake_mixes_r3.bits (fun HT_ HW_=>?_);refine p_ HT_ 0 (some 58) blake_mixes_r3.l0 ?_;refine p_ HT_ 1 (some 59) blake_mixes_r3.l1 ?_;refine p_ HT_ 2 (some 60) blake_mixes_r3.l2 ?_;refine p_ HT_ 3 (some 61) blake_mixes_r3.l3 ?_;refine p_ HT_ 4 (some 62) blake_mixes_r3.l4 ?_;refine p_ HT_ 5 (some 63) blake_mixes_r3.l5 ?_;refine tk HT_ HW_ hHeld 6 (some 64) blake_mixes_r3.l6 (hr:=by intro w' hs_;obtain ⟨s0,s1,s2⟩:=hs_;go_simp;with_reducible rfl) (h:=?_);refine p_ HT_ 7 (some 65) blake_mixes_r3.l7 ?_;refine p_ HT_ 8 (some 66) blake_mixes_r3.l8 ?_;refine p_ HT_ 9 (some 67) blake_mixes_r3.l9 ?_;refine p_ HT_ 10 (some 68) blake_mixes_r3.l10 ?_;refine tk HT_ HW_ hHeld 11 (some 69) blake_mixes_r3.l11 (hr:=by intro w' hs_;obtain ⟨s0,s1,s2⟩:=hs_;go_simp;with_reducible rfl) (h:=?_);refine p_ HT_ 12 (some 70) blake_mixes_r3.l12 ?_;refine p_ HT_ 14 (some 72) blake_mixes_r3.l13 ?_;refine o_ HT_ 13 (some 71) blake_mixes_r3.l14 fun K hK=>?_;refine gs Tryd.func83 #[.int .u64 (Go.bits .xor .u64 v_p3 v_q3),.int .i64 (-24)] ?_;refine (bits_RotateLeft64.calls _ _ _ _ (rotP_some24 _)).mono ?_;rintro e w9 ⟨rfl,⟨m_,rfl⟩⟩;refine ⟨_,rfl,?_⟩;refine hK.out _ _ hHeld (fun hHeld=>?_);clear hK K;refine nm (some 71) ?_;refine p_ HT_ 15 (some 73) blake_mixes_r3.l15 ?_;refine last_ (i:=16) (N:=none) blake_mixes_r3.l16 rfl rfl (one_of HT_.out (by kernel_rfl)) (by decide) (fun K hK=>?_);clear hHeld;refine skip_ (w1:=World.setCell (w3.drew.drewN m_) ⟨g,b,none⟩ (.int .u64 (rotP 24 (Go.bits .xor .u64 v_p3 v_q3)))) (by rfl) rfl ?_ ?_
 ·go_simp
 refine hK.out _ _ ?_;clear hK K;refine done_ (done_of HT_.out (by kernel_rfl)) ?_;clear s0 s1 s2;clear HT_ HW_;obtain ⟨V4,hV4⟩ : ∃ V',V' = blake_mixes.step 3 V3 a b c d x y:=⟨_,rfl⟩
 have hL4 : V4.length = 16:=by rw [hV4,blake_mixes.step_length];exact hL3
 have n0_:=(HA.out.drew.drewN m_).set b (by omega) (rotP 24 (Go.bits .xor .u64 v_p3 v_q3));rw [show V3.set b (rotP 24 (Go.bits .xor .u64 v_p3 v_q3)) = V4 by rw [hV4,Hv_p.out,Hv_q.out];rfl] at n0_;have n1_:=grown_set (grown_drewN (grown_drew HG.out) m_) b (.int .u64 (rotP 24 (Go.bits .xor .u64 v_p3 v_q3)));generalize World.setCell _ _ _ = w4 at n0_ n1_ ⊢;clear HA HG;have HA:=am n0_;have HG:=am n1_;clear n0_ n1_ Hv_p Hv_q;have hA4:=HA.out;have s0:=hA4.cell a (by omega);have s1:=hA4.cell b (by omega);have s2:=hA4.frozen a (by omega);clear hA4;obtain ⟨v_p4,hv_p⟩ : ∃ v,v = V4.getD a 0:=⟨_,rfl⟩;obtain ⟨v_q4,hv_q⟩ : ∃ v,v = V4.getD b 0:=⟨_,rfl⟩;rw [← hv_p] at s0;rw [← hv_q] at s1;have Hv_p:=am hv_p;have Hv_q:=am hv_q;clear hv_p hv_q
 go_upto_region 4 with (fail)
 refine start_ (n:=16) (S:=fun w'=>w'.cell? ⟨g,a,none⟩ = some (.int .u64 (v_p4)) ∧ w'.cell? ⟨g,b,none⟩ = some (.int .u64 (v_q4)) ∧ w'.frozen? ⟨g,a,none⟩ = false) (ds:=[15]) (bl 16 0) (by kernel_rfl) rfl rfl ⟨s0,s1,s2⟩ (fun hHeld=>?_);refine with_tabW blake_mixes_r4.tab blake_mixes_r4.bits (fun HT_ HW_=>?_);refine p_ HT_ 0 (some 74) blake_mixes_r4.l0 ?_;refine p_ HT_ 1 (some 75) blake_mixes_r4.l1 ?_;refine p_ HT_ 2 (some 76) blake_mixes_r4.l2 ?_;refine p_ HT_ 3 (some 77) blake_mixes_r4.l3 ?_;refine tk HT_ HW_ hHeld 4 (some 78) blake_mixes_r4.l4 (hr:=by intro w' hs_;obtain ⟨s0,s1,s2⟩:=hs_;go_simp;with_reducible rfl) (h:=?_);refine p_ HT_ 5 (some 79) blake_mixes_r4.l5 ?_;refine p_ HT_ 6 (some 80) blake_mixes_r4.l6 ?_;refine p_ HT_ 7 (some 81) blake_mixes_r4.l7 ?_;refine p_ HT_ 8 (some 82) blake_mixes_r4.l8 ?_;refine tk HT_ HW_ hHeld 9 (some 83) blake_mixes_r4.l9 (hr:=by intro w' hs_;obtain ⟨s0,s1,s2⟩:=hs_;go_simp;with_reducible rfl) (h:=?_);refine p_ HT_ 10 (some 84) blake_mixes_r4.l10 ?_;refine p_ HT_ 11 (some 85) blake_mixes_r4.l11 ?_;refine p_ HT_ 12 (some 86) blake_mixes_r4.l12 ?_;refine p_ HT_ 13 (some 87) blake_mixes_r4.l13 ?_;refine p_ HT_ 14 (some 88) blake_mixes_r4.l14 ?_;refine last_ (i:=15) (N:=none) blake_mixes_r4.l15 rfl rfl (one_of HT_.out (by kernel_rfl)) (by decide) (fun K hK=>?_);clear hHeld;refine skip_ (w1:=World.setCell w4.drew ⟨g,a,none⟩ (.int .u64 (wr (v_p4 + wr (v_q4 + y))))) (by rfl) rfl ?_ ?_
 ·go_simp
 refine hK.out _ _ ?_;clear hK K;refine done_ (done_of HT_.out (by kernel_rfl)) ?_;clear s0 s1 s2;clear HT_ HW_;obtain ⟨V5,hV5⟩ : ∃ V',V' = blake_mixes.step 4 V4 a b c d x y:=⟨_,rfl⟩
 have hL5 : V5.length = 16:=by rw [hV5,blake_mixes.step_length];exact hL4
 have n0_:=HA.out.drew.set a (by omega) (wr (v_p4 + wr (v_q4 + y)));rw [show V4.set a (wr (v_p4 + wr (v_q4 + y))) = V5 by rw [hV5,Hv_p.out,Hv_q.out];rfl] at n0_;have n1_:=grown_set (grown_drew HG.out) a (.int .u64 (wr (v_p4 + wr (v_q4 + y))));generalize World.setCell _ _ _ = w5 at n0_ n1_ ⊢;clear HA HG;have HA:=am n0_;have HG:=am n1_;clear n0_ n1_ Hv_p Hv_q;have hA5:=HA.out;have s0:=hA5.cell d (by omega);have s1:=hA5.cell a (by omega);have s2:=hA5.frozen d (by omega);clear hA5;obtain ⟨v_p5,hv_p⟩ : ∃ v,v = V5.getD d 0:=⟨_,rfl⟩;obtain ⟨v_q5,hv_q⟩ : ∃ v,v = V5.getD a 0:=⟨_,rfl⟩;rw [← hv_p] at s0;rw [← hv_q] at s1;have Hv_p:=am hv_p;have Hv_q:=am hv_q;clear hv_p hv_q
 go_upto_region 5 with (fail)
 refine start_ (n:=17) (S:=fun w'=>w'.cell? ⟨g,d,none⟩ = some (.int .u64 (v_p5)) ∧ w'.cell? ⟨g,a,none⟩ = some (.int .u64 (v_q5)) ∧ w'.frozen? ⟨g,d,none⟩ = false) (ds:=[16]) (bl 17 0) (by kernel_rfl) rfl rfl ⟨s0,s1,s2⟩ (fun hHeld=>?_);refine with_tabW blake_mixes_r5.tab blake_mixes_r5.bits (fun HT_ HW_=>?_);refine p_ HT_ 0 (some 89) blake_mixes_r5.l0 ?_;refine p_ HT_ 1 (some 90) blake_mixes_r5.l1 ?_;refine p_ HT_ 2 (some 91) blake_mixes_r5.l2 ?_;refine p_ HT_ 3 (some 92) blake_mixes_r5.l3 ?_;refine p_ HT_ 4 (some 93) blake_mixes_r5.l4 ?_;refine p_ HT_ 5 (some 94) blake_mixes_r5.l5 ?_;refine tk HT_ HW_ hHeld 6 (some 95) blake_mixes_r5.l6 (hr:=by intro w' hs_;obtain ⟨s0,s1,s2⟩:=hs_;go_simp;with_reducible rfl) (h:=?_);refine p_ HT_ 7 (some 96) blake_mixes_r5.l7 ?_;refine p_ HT_ 8 (some 97) blake_mixes_r5.l8 ?_;refine p_ HT_ 9 (some 98) blake_mixes_r5.l9 ?_;refine p_ HT_ 10 (some 99) blake_mixes_r5.l10 ?_;refine tk HT_ HW_ hHeld 11 (some 100) blake_mixes_r5.l11 (hr:=by intro w' hs_;obtain ⟨s0,s1,s2⟩:=hs_;go_simp;with_reducible rfl) (h:=?_);refine p_ HT_ 12 (some 101) blake_mixes_r5.l12 ?_;refine p_ HT_ 14 (some 103) blake_mixes_r5.l13 ?_;refine o_ HT_ 13 (some 102) blake_mixes_r5.l14 fun K hK=>?_;refine gs Tryd.func83 #[.int .u64 (Go.bits .xor .u64 v_p5 v_q5),.int .i64 (-16)] ?_;refine (bits_RotateLeft64.calls _ _ _ _ (rotP_some16 _)).mono ?_;rintro e w9 ⟨rfl,⟨m_,rfl⟩⟩;refine ⟨_,rfl,?_⟩;refine hK.out _ _ hHeld (fun hHeld=>?_);clear hK K;refine nm (some 102) ?_;refine p_ HT_ 15 (some 104) blake_mixes_r5.l15 ?_;refine last_ (i:=16) (N:=none) blake_mixes_r5.l16 rfl rfl (one_of HT_.out (by kernel_rfl)) (by decide) (fun K hK=>?_);clear hHeld;refine skip_ (w1:=World.setCell (w5.drew.drewN m_) ⟨g,d,none⟩ (.int .u64 (rotP 16 (Go.bits .xor .u64 v_p5 v_q5)))) (by rfl) rfl ?_ ?_
 ·go_simp
 refine hK.out _ _ ?_;clear hK K;refine done_ (done_of HT_.out (by kernel_rfl)) ?_;clear s0 s1 s2;clear HT_ HW_;obtain ⟨V6,hV6⟩ : ∃ V',V' = blake_mixes.step 5 V5 a b c d x y:=⟨_,rfl⟩
 have hL6 : V6.length = 16:=by rw [hV6,blake_mixes.step_length];exact hL5
 have n0_:=(HA.out.drew.drewN m_).set d (by omega) (rotP 16 (Go.bits .xor .u64 v_p5 v_q5));rw [show V5.set d (rotP 16 (Go.bits .xor .u64 v_p5 v_q5)) = V6 by rw [hV6,Hv_p.out,Hv_q.out];rfl] at n0_;have n1_:=grown_set (grown_drewN (grown_drew HG.out) m_) d (.int .u64 (rotP 16 (Go.bits .xor .u64 v_p5 v_q5)));generalize World.setCell _ _ _ = w6 at n0_ n1_ ⊢;clear HA HG;have HA:=am n0_;have HG:=am n1_;clear n0_ n1_ Hv_p Hv_q;have hA6:=HA.out;have s0:=hA6.cell c (by omega);have s1:=hA6.cell d (by omega);have s2:=hA6.frozen c (by omega);clear hA6;obtain ⟨v_p6,hv_p⟩ : ∃ v,v = V6.getD c 0:=⟨_,rfl⟩;obtain ⟨v_q6,hv_q⟩ : ∃ v,v = V6.getD d 0:=⟨_,rfl⟩;rw [← hv_p] at s0;rw [← hv_q] at s1;have Hv_p:=am hv_p;have Hv_q:=am hv_q;clear hv_p hv_q
 go_upto_region 6 with (fail)
 refine start_ (n:=14) (S:=fun w'=>w'.cell? ⟨g,c,none⟩ = some (.int .u64 (v_p6)) ∧ w'.cell? ⟨g,d,none⟩ = some (.int .u64 (v_q6)) ∧ w'.frozen? ⟨g,c,none⟩ = false) (ds:=[13]) (bl 14 0) (by kernel_rfl) rfl rfl ⟨s0,s1,s2⟩ (fun hHeld=>?_);refine with_tabW blake_mixes_r6.tab blake_mixes_r6.bits (fun HT_ HW_=>?_);refine p_ HT_ 0 (some 105) blake_mixes_r6.l0 ?_;refine p_ HT_ 1 (some 106) blake_mixes_r6.l1 ?_;refine p_ HT_ 2 (some 107) blake_mixes_r6.l2 ?_;refine p_ HT_ 3 (some 108) blake_mixes_r6.l3 ?_;refine tk HT_ HW_ hHeld 4 (some 109) blake_mixes_r6.l4 (hr:=by intro w' hs_;obtain ⟨s0,s1,s2⟩:=hs_;go_simp;with_reducible rfl) (h:=?_);refine p_ HT_ 5 (some 110) blake_mixes_r6.l5 ?_;refine p_ HT_ 6 (some 111) blake_mixes_r6.l6 ?_;refine p_ HT_ 7 (some 112) blake_mixes_r6.l7 ?_;refine p_ HT_ 8 (some 113) blake_mixes_r6.l8 ?_;refine tk HT_ HW_ hHeld 9 (some 114) blake_mixes_r6.l9 (hr:=by intro w' hs_;obtain ⟨s0,s1,s2⟩:=hs_;go_simp;with_reducible rfl) (h:=?_);refine p_ HT_ 10 (some 115) blake_mixes_r6.l10 ?_;refine p_ HT_ 11 (some 116) blake_mixes_r6.l11 ?_;refine p_ HT_ 12 (some 117) blake_mixes_r6.l12 ?_;refine last_ (i:=13) (N:=none) blake_mixes_r6.l13 rfl rfl (one_of HT_.out (by kernel_rfl)) (by decide) (fun K hK=>?_);clear hHeld;refine skip_ (w1:=World.setCell w6.drew ⟨g,c,none⟩ (.int .u64 (wr (v_p6 + v_q6)))) (by rfl) rfl ?_ ?_
 ·go_simp
 refine hK.out _ _ ?_;clear hK K;refine done_ (done_of HT_.out (by kernel_rfl)) ?_;clear s0 s1 s2;clear HT_ HW_;obtain ⟨V7,hV7⟩ : ∃ V',V' = blake_mixes.step 6 V6 a b c d x y:=⟨_,rfl⟩
 have hL7 : V7.length = 16:=by rw [hV7,blake_mixes.step_length];exact hL6
 have n0_:=HA.out.drew.set c (by omega) (wr (v_p6 + v_q6));rw [show V6.set c (wr (v_p6 + v_q6)) = V7 by rw [hV7,Hv_p.out,Hv_q.out];rfl] at n0_;have n1_:=grown_set (grown_drew HG.out) c (.int .u64 (wr (v_p6 + v_q6)));generalize World.setCell _ _ _ = w7 at n0_ n1_ ⊢;clear HA HG;have HA:=am n0_;have HG:=am n1_;clear n0_ n1_ Hv_p Hv_q;have hA7:=HA.out;have s0:=hA7.cell b (by omega);have s1:=hA7.cell c (by omega);have s2:=hA7.frozen b (by omega);clear hA7;obtain ⟨v_p7,hv_p⟩ : ∃ v,v = V7.getD b 0:=⟨_,rfl⟩;obtain ⟨v_q7,hv_q⟩ : ∃ v,v = V7.getD c 0:=⟨_,rfl⟩;rw [← hv_p] at s0;rw [← hv_q] at s1;have Hv_p:=am hv_p;have Hv_q:=am hv_q;clear hv_p hv_q
 go_upto_region 7 with (fail)
 refine start_ (n:=17) (S:=fun w'=>w'.cell? ⟨g,b,none⟩ = some (.int .u64 (v_p7)) ∧ w'.cell? ⟨g,c,none⟩ = some (.int .u64 (v_q7)) ∧ w'.frozen? ⟨g,b,none⟩ = false) (ds:=[16]) (bl 17 0) (by kernel_rfl) rfl rfl ⟨s0,s1,s2⟩ (fun hHeld=>?_);refine with_tabW blake_mixes_r7.tab blake_mixes_r7.bits (fun HT_ HW_=>?_);refine p_ HT_ 0 (some 118) blake_mixes_r7.l0 ?_;refine p_ HT_ 1 (some 119) blake_mixes_r7.l1 ?_;refine p_ HT_ 2 (some 120) blake_mixes_r7.l2 ?_;refine p_ HT_ 3 (some 121) blake_mixes_r7.l3 ?_;refine p_ HT_ 4 (some 122) blake_mixes_r7.l4 ?_;refine p_ HT_ 5 (some 123) blake_mixes_r7.l5 ?_;refine tk HT_ HW_ hHeld 6 (some 124) blake_mixes_r7.l6 (hr:=by intro w' hs_;obtain ⟨s0,s1,s2⟩:=hs_;go_simp;with_reducible rfl) (h:=?_);refine p_ HT_ 7 (some 125) blake_mixes_r7.l7 ?_;refine p_ HT_ 8 (some 126) blake_mixes_r7.l8 ?_;refine p_ HT_ 9 (some 127) blake_mixes_r7.l9 ?_;refine p_ HT_ 10 (some 128) blake_mixes_r7.l10 ?_;refine tk HT_ HW_ hHeld 11 (some 129) blake_mixes_r7.l11 (hr:=by intro w' hs_;obtain ⟨s0,s1,s2⟩:=hs_;go_simp;with_reducible rfl) (h:=?_);refine p_ HT_ 12 (some 130) blake_mixes_r7.l12 ?_;refine p_ HT_ 14 (some 132) blake_mixes_r7.l13 ?_;refine o_ HT_ 13 (some 131) blake_mixes_r7.l14 fun K hK=>?_;refine gs Tryd.func83 #[.int .u64 (Go.bits .xor .u64 v_p7 v_q7),.int .i64 (-63)] ?_;refine (bits_RotateLeft64.calls _ _ _ _ (rotP_some63 _)).mono ?_;rintro e w9 ⟨rfl,⟨m_,rfl⟩⟩;refine ⟨_,rfl,?_⟩;refine hK.out _ _ hHeld (fun hHeld=>?_);clear hK K;refine nm (some 131) ?_;refine p_ HT_ 15 (some 133) blake_mixes_r7.l15 ?_;refine last_ (i:=16) (N:=none) blake_mixes_r7.l16 rfl rfl (one_of HT_.out (by kernel_rfl)) (by decide) (fun K hK=>?_);clear hHeld;refine skip_ (w1:=World.setCell (w7.drew.drewN m_) ⟨g,b,none⟩ (.int .u64 (rotP 63 (Go.bits .xor .u64 v_p7 v_q7)))) (by rfl) rfl ?_ ?_
 ·go_simp
 refine hK.out _ _ ?_;clear hK K;refine done_ (done_of HT_.out (by kernel_rfl)) ?_;clear s0 s1 s2;clear HT_ HW_;obtain ⟨V8,hV8⟩ : ∃ V',V' = blake_mixes.step 7 V7 a b c d x y:=⟨_,rfl⟩
 have hL8 : V8.length = 16:=by rw [hV8,blake_mixes.step_length];exact hL7
 have n0_:=(HA.out.drew.drewN m_).set b (by omega) (rotP 63 (Go.bits .xor .u64 v_p7 v_q7));rw [show V7.set b (rotP 63 (Go.bits .xor .u64 v_p7 v_q7)) = V8 by rw [hV8,Hv_p.out,Hv_q.out];rfl] at n0_;have n1_:=grown_set (grown_drewN (grown_drew HG.out) m_) b (.int .u64 (rotP 63 (Go.bits .xor .u64 v_p7 v_q7)));generalize World.setCell _ _ _ = w8 at n0_ n1_ ⊢;clear HA HG;have HA:=am n0_;have HG:=am n1_;clear n0_ n1_ Hv_p Hv_q;refine bodyPost_end (v:= .tuple #[]) (results_none rfl _ _ _) rfl ?_;refine ⟨rfl,?_,HG.out⟩
 have e : blake_mixes.f V0 a b c d x y = V8:=by rw [hV8,hV7,hV6,hV5,hV4,hV3,hV2,hV1];rfl
 rw [e];exact HA.out
end Go.Proofs.YtilckocpgififaaDoor.G
