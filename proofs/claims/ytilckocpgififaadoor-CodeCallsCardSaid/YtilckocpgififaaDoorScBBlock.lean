/- (*blake.state).block: a block is hashed (laid by mkblock.py) -/
import Derived.Test.YtilckocpgififaaDoorScHStep
import Derived.Test.YtilckocpgififaaDoorScBArr
import Derived.Test.YtilckocpgififaaDoorScBArrM
import Derived.Test.YtilckocpgififaaDoorScBMix
namespace Go.Proofs.YtilckocpgififaaDoor.G
open Go.RowKit Go.Proofs.YtilckocpgififaaDoorW.PrintWords Go.Proofs.YtilckocpgififaaDoorW.PrintLast Go.Proofs.YtilckocpgififaaDoorW.PrintMore
set_option linter.unusedVariables false
set_option linter.unusedSimpArgs false
def permOf (j : Nat) : List Nat:=(ordersL.getD j []).map fun c=>(Lib.indexByte digitsB.data.toList c).toNat
theorem order_of : ∀ j : Fin 10,Order (rowOf j.val) (permOf j.val):=fun j=>by
 have h : (rowOf j.val).size = 16 ∧ ∀ i : Fin 16,Lib.indexByte digitsB.data.toList (bt (rowOf j.val) (i.val : Int)).toNat.toUInt8 = (((permOf j.val).getD i.val 0 : Nat) : Int) ∧ (permOf j.val).getD i.val 0 < 16:=by
  revert j;decide +kernel
 exact ⟨h.1,fun i hi=>h.2 ⟨i,hi⟩⟩
def roundsF (M : List Int) : List Nat → List Int → List Int
 | [],V=>V
 | i :: l,V=>roundsF M l (roundL V M (permOf (i % 10)))
def notU (x : Int) : Int:=Go.bits .xor .u64 (if IntKind.u64.signed = true then -1 else IntKind.u64.max) x
def vInit (H : List Int) (cnt : Int) (last : Bool) : List Int:=
 let v:=H.take 8 ++ beginV
 let v:=v.set 12 (Go.bits .xor .u64 (v.getD 12 0) cnt)
 if last then v.set 14 (notU (v.getD 14 0)) else v
def outF (V : List Int) : List Nat → List Int → List Int
 | [],H=>H
 | i :: l,H=>outF V l (H.set i (Go.bits .xor .u64 (H.getD i 0) (Go.bits .xor .u64 (V.getD i 0) (V.getD (i + 8) 0))))
def countL (H : List Int) (n : Nat) : Int:=wr (H.getD 8 0 + wr (n : Int))
def blockL (H b : List Int) (last : Bool) : List Int:=
 outF (roundsF (wordsL b) (List.range 12) (vInit H (countL H b.length) last)) (List.range 8) (H.set 8 (countL H b.length))
theorem outF_length (V : List Int) : ∀ (l : List Nat) (H : List Int),(outF V l H).length = H.length
 | [],_=>rfl
 | i :: l,H=>(outF_length V l _).trans (by simp)
theorem blockL_length (H b : List Int) (last : Bool) : (blockL H b last).length = H.length:=by unfold blockL;rw [outF_length];simp
theorem roundsF_length (M : List Int) : ∀ (l : List Nat) (V : List Int),(roundsF M l V).length = V.length
 | [],_=>rfl
 | i :: l,V=>(roundsF_length M l _).trans (roundL_length _ _ _)
theorem vInit_length (H : List Int) (cnt : Int) (last : Bool) (h : H.length = 9) : (vInit H cnt last).length = 16:=by
 have : beginV.length = 8:=rfl
 unfold vInit
 cases last <;> simp [h,this]
theorem C_grown {w w' : World} {A : Option Addr} {n g : Nat} {xs : List Int} (h : Kd.C (Kd.int .u8) w A n xs) (hg : w.grownBy w' (some g)) (hf : ∀ ad,A = some ad → 0 < n → ad.block ≠ g) : Kd.C (Kd.int .u8) w' A n xs:=
 Kd.C_keep (enc:=Value.int .u8) (h1:=fun _=>rfl) (0 : Int) h ⟨hg.size,fun i hi hne _=>hg.block i hi (by simpa using hne)⟩ hf
theorem copy_step {P : Program} {ops : Array Oper} {o : Oper} {a : Act} {w : World} {K : Act → World → Prop} {Q : Exit → Act → World → Prop} {E : Prop} {d s : Operand} {t t' : TypeId} {v u v' : Value} {w' : World}
 (hw : Region.wanted o (yielded ops a.tmps) = true) (ho : o.op = .call { callee:= .builtin .copy,args:=#[d,s],argTypes:=#[t,t'] }) (hd : a.eval d = v) (hs : a.eval s = u)
 (hr : (Builtin.copy_ #[t,t'] o.type #[v,u]).run P w = .ok v' w') (h : K (a.put o.dst v') w') : if Region.wanted o (yielded ops a.tmps) = true then Oper.wp P o a w K Q else E:=by
 rw [if_pos hw]
 unfold Oper.wp execOp
 simp only [ho,resolve,invoke,builtin,Sem.run_bind,Sem.run_pure,Result.andThen_ok,List.map_toArray,List.map_cons,List.map_nil,hd,hs,hr];exact h
theorem load_run {P : Program} {o : Oper} {a : Act} {w : World} {ty : TypeId} {y : Operand} {g : Nat} {L : List Value} {d : TypeDesc} (ho : o.op = .load ty y) (hx : a.eval y = .pointer (some ⟨g,0,none⟩)) (h : w.rangeAt g 0 L) (hu : P.underlying ty = some d) (hd : d.isRow = true) (hi : (P.info? ty).map (·.size) = some L.length) :
 (execOp a.eval o).run P w = .ok (.value (.agg L.toArray)) w:=by
 unfold execOp
 simp only [ho,hx,Instr.loadAt,Instr.sureAddr,Sem.run_bind,Sem.run_pure,Result.andThen_ok,run_loadVar_mid w g 0 ty L d h hu hd hi]
theorem info_u64 : (Tryd.prog.info? 61).map (·.size) = some 1:=by kernel_rfl
theorem Spaces.grown {w w' : World} {g : Nat} (h : Spaces w) (hg : w.grownBy w' (some g)) (hg0 : g ≠ 0) : Spaces w':=by
 have hk : ∀ (b : Nat) v,w.cell? ⟨0,b,none⟩ = some v → w'.cell? ⟨0,b,none⟩ = some v:=fun b v hc=>(World.cell?_of_block (a:=⟨0,b,none⟩) (hg.block 0 (World.block_lt_of_cell? _ _ hc) (by simp;exact fun e=>hg0 e.symm))).trans hc;exact ⟨fun b hb=>hk _ _ (h.1 b hb),hk _ _ h.2⟩
theorem Spaces.pos {w : World} (h : Spaces w) : 0 < w.heap.size:=World.block_lt_of_cell? _ _ h.2
theorem rounds_rest (M V R : List Int) (k : Nat) (hk : k < 12) (h : roundsF M (List.range' k (12 - k)) V = R) : roundsF M (List.range' (k + 1) (12 - (k + 1))) (roundL V M (permOf (k % 10))) = R:=by
 rw [show 12 - k = (12 - (k + 1)) + 1 by omega,List.range'_succ,roundsF] at h;exact h
theorem out_rest (V H R : List Int) (k : Nat) (hk : k < 8) (h : outF V (List.range' k (8 - k)) H = R) : outF V (List.range' (k + 1) (8 - (k + 1))) (H.set k (Go.bits .xor .u64 (H.getD k 0) (Go.bits .xor .u64 (V.getD k 0) (V.getD (k + 8) 0)))) = R:=by
 rw [show 8 - k = (8 - (k + 1)) + 1 by omega,List.range'_succ,outF] at h;exact h
def blake_block_r4.T : Bool × List (List Nat × List Nat):=(true,[([],[]),([],[]),([1],[1]),([2],[2]),([3],[3]),([0,4],[0,4])])
def blake_block_r4.B : List Nat:=[0,0,2,6,14,31]
theorem blake_block_r4.tab : rtab .any (opsOf Tryd.f52 4) = blake_block_r4.T:=by kernel_rfl
theorem blake_block_r4.bits : waitsOk blake_block_r4.T.2 blake_block_r4.B = true:=by kernel_rfl
def blake_block_r4.l0 : Array Bool:=bl 6 1
def blake_block_r4.l1 : Array Bool:=bl 6 3
def blake_block_r4.l2 : Array Bool:=bl 6 7
def blake_block_r4.l3 : Array Bool:=bl 6 15
def blake_block_r4.l4 : Array Bool:=bl 6 31
def blake_block_r4.l5 : Array Bool:=bl 6 63
def blake_block_r5.T : Bool × List (List Nat × List Nat):=(true,[([],[]),([],[]),([0,1],[0,1])])
def blake_block_r5.B : List Nat:=[0,0,3]
theorem blake_block_r5.tab : rtab .any (opsOf Tryd.f52 5) = blake_block_r5.T:=by kernel_rfl
theorem blake_block_r5.bits : waitsOk blake_block_r5.T.2 blake_block_r5.B = true:=by kernel_rfl
def blake_block_r5.l0 : Array Bool:=bl 3 1
def blake_block_r5.l1 : Array Bool:=bl 3 3
def blake_block_r5.l2 : Array Bool:=bl 3 7
def blake_block_r6.T : Bool × List (List Nat × List Nat):=(true,[([],[]),([0],[0]),([],[]),([2],[2]),([3],[3]),([4],[4]),([1,5],[1,5]),([0,1,2,3,4,5,6],[]),([7,6,0,1,2,3,4,5,6],[6,7])])
def blake_block_r6.B : List Nat:=[0,1,0,4,12,28,63,127,255]
theorem blake_block_r6.tab : rtab .any (opsOf Tryd.f52 6) = blake_block_r6.T:=by kernel_rfl
theorem blake_block_r6.bits : waitsOk blake_block_r6.T.2 blake_block_r6.B = true:=by kernel_rfl
def blake_block_r6.l0 : Array Bool:=bl 9 1
def blake_block_r6.l1 : Array Bool:=bl 9 3
def blake_block_r6.l2 : Array Bool:=bl 9 7
def blake_block_r6.l3 : Array Bool:=bl 9 15
def blake_block_r6.l4 : Array Bool:=bl 9 31
def blake_block_r6.l5 : Array Bool:=bl 9 63
def blake_block_r6.l6 : Array Bool:=bl 9 127
def blake_block_r6.l7 : Array Bool:=bl 9 255
def blake_block_r6.l8 : Array Bool:=bl 9 511
def blake_block_r13.T : Bool × List (List Nat × List Nat):=(true,[([],[]),([],[]),([],[]),([],[]),([3],[3]),([2,4],[2,4]),([1,5],[1,5]),([6],[6]),([0,7],[0,7])])
def blake_block_r13.B : List Nat:=[0,0,0,0,8,28,62,126,255]
theorem blake_block_r13.tab : rtab .any (opsOf Tryd.f52 13) = blake_block_r13.T:=by kernel_rfl
theorem blake_block_r13.bits : waitsOk blake_block_r13.T.2 blake_block_r13.B = true:=by kernel_rfl
def blake_block_r13.l0 : Array Bool:=bl 9 1
def blake_block_r13.l1 : Array Bool:=bl 9 3
def blake_block_r13.l2 : Array Bool:=bl 9 7
def blake_block_r13.l3 : Array Bool:=bl 9 15
def blake_block_r13.l4 : Array Bool:=bl 9 31
def blake_block_r13.l5 : Array Bool:=bl 9 63
def blake_block_r13.l6 : Array Bool:=bl 9 127
def blake_block_r13.l7 : Array Bool:=bl 9 255
def blake_block_r13.l8 : Array Bool:=bl 9 511
def blake_block_r18.T : Bool × List (List Nat × List Nat):=(true,[([],[]),([],[]),([0],[0]),([2],[2]),([3,1],[1,3]),([4],[4]),([],[]),([6],[6]),([7],[7]),([],[]),([9],[9]),([10],[10]),([11],[11]),([8,12],[8,12]),([5,13],[5,13]),([0],[0]),([15],[15]),([16,1,0,1,2,3,4,5,6,7,8,9,10,11,12,13,14],[1,16]),([17,14,0,1,2,3,4,5,6,7,8,9,10,11,12,13,14],[14,17])])
def blake_block_r18.B : List Nat:=[0,0,1,5,15,31,0,64,192,0,512,1536,3584,8128,16383,1,32769,131071,262143]
theorem blake_block_r18.tab : rtab .any (opsOf Tryd.f52 18) = blake_block_r18.T:=by kernel_rfl
theorem blake_block_r18.bits : waitsOk blake_block_r18.T.2 blake_block_r18.B = true:=by kernel_rfl
def blake_block_r18.l0 : Array Bool:=bl 19 1
def blake_block_r18.l1 : Array Bool:=bl 19 3
def blake_block_r18.l2 : Array Bool:=bl 19 7
def blake_block_r18.l3 : Array Bool:=bl 19 15
def blake_block_r18.l4 : Array Bool:=bl 19 31
def blake_block_r18.l5 : Array Bool:=bl 19 63
def blake_block_r18.l6 : Array Bool:=bl 19 127
def blake_block_r18.l7 : Array Bool:=bl 19 255
def blake_block_r18.l8 : Array Bool:=bl 19 511
def blake_block_r18.l9 : Array Bool:=bl 19 1023
def blake_block_r18.l10 : Array Bool:=bl 19 2047
def blake_block_r18.l11 : Array Bool:=bl 19 4095
def blake_block_r18.l12 : Array Bool:=bl 19 8191
def blake_block_r18.l13 : Array Bool:=bl 19 16383
def blake_block_r18.l14 : Array Bool:=bl 19 32767
def blake_block_r18.l15 : Array Bool:=bl 19 65535
def blake_block_r18.l16 : Array Bool:=bl 19 131071
def blake_block_r18.l17 : Array Bool:=bl 19 262143
def blake_block_r18.l18 : Array Bool:=bl 19 524287
set_option maxRecDepth 100000 in
set_option maxHeartbeats 16000000 in
theorem blake_block.calls (g : Nat) (H : List Int) (A : Option Addr) (cp : Nat) (l : List Int) (last : Bool) (w : World) (hH : H.length = 9) (hA : Arr w g H) (hC : Kd.C (Kd.int .u8) w A l.length l) (hl : l.length ≤ 128) (hB : ∀ c ∈ l,0 ≤ c ∧ c < 256)
 (hf : ∀ ad,A = some ad → 0 < l.length → ad.block ≠ g) (hT : Spaces w) (hg0 : g ≠ 0) :
 Calls Tryd.prog 52 #[.pointer (some ⟨g,0,none⟩),.slice A l.length cp,.bool last] w fun e w'=>e = .returned (.tuple #[]) ∧ Arr w' g (blockL H l last) ∧ w.grownBy w' (some g):=by
 obtain ⟨Z,hZ⟩ : ∃ Z,Z = zero16.map (Value.int .u64):=⟨_,rfl⟩;obtain ⟨Z8,hZ8⟩ : ∃ Z,Z = (List.replicate 8 (0 : Int)).map (Value.int .u64):=⟨_,rfl⟩;obtain ⟨L6,hL6⟩ : ∃ L,L = (wordsL l).map (Value.int .u64):=⟨_,rfl⟩;obtain ⟨L8,hL8⟩ : ∃ L,L = beginV.map (Value.int .u64):=⟨_,rfl⟩
 have hZl : Z.length = 16:=by rw [hZ];rfl
 have hZ8l : Z8.length = 8:=by rw [hZ8];rfl
 have hL6l : L6.length = 16:=by rw [hL6,List.length_map];exact wordsL_length l
 have hL8l : L8.length = 8:=by rw [hL8];rfl
 have hL6o : ∀ v ∈ L6,v.oneCell' = true:=by rw [hL6];exact one_of_map _
 have hL8o : ∀ v ∈ L8,v.oneCell' = true:=by rw [hL8];exact one_of_map _
 have HAL : Aside0 (∀ w,(zeroValue 91).run Tryd.prog w = .ok (.agg Z.toArray) w):=⟨fun w=>by rw [hZ];exact zero_run info_a16 w⟩;have HAL8 : Aside0 (∀ w,(zeroValue 62).run Tryd.prog w = .ok (.agg Z8.toArray) w):=⟨fun w=>by rw [hZ8];exact zero_run info_a8 w⟩;have HWO : Aside0 (∀ w,Kd.C (Kd.int .u8) w A l.length l → Calls Tryd.prog 68 #[.slice A l.length cp] w fun e w'=>e = .returned (.agg L6.toArray) ∧ Below w.heap.size w w'):=⟨fun w h=>by rw [hL6];exact blake_words.calls A cp l w h hl hB⟩;have HBE : Aside0 (∀ w,Calls Tryd.prog 51 #[] w fun e w'=>e = .returned (.agg L8.toArray) ∧ Below w.heap.size w w'):=⟨fun w=>by rw [hL8];exact blake_begin.calls w⟩;obtain ⟨c0,hc0⟩ : ∃ c,c = H.getD 8 0:=⟨_,rfl⟩;obtain ⟨cnt,hcnt⟩ : ∃ c,c = IntKind.u64.wrap (c0 + IntKind.u64.wrap (l.length : Int)):=⟨_,rfl⟩;have s0:=hA.cell 8 (by omega);have s1:=hA.frozen 8 (by omega);rw [← hc0] at s0;have HZ:=am hZ;have HZl:=am hZl;have HZ8l:=am hZ8l;have HL6:=am hL6;have HL8:=am hL8;have HL6l:=am hL6l;have HL8l:=am hL8l;have HL6o:=am hL6o;have HL8o:=am hL8o;have HA:=am hA;have HC:=am hC;have HF:=am hf;have HTs:=am hT;have Hg0:=am hg0;have Hc0:=am hc0;have Hcnt:=am hcnt;have HHl:=am hH;have Hl:=am hl;clear hZ hZ8 hL6 hL8 hZl hZ8l hL6l hL8l hL6o hL8o hA hC hf hT hg0 hc0 hcnt hB hH hl;go_enter Tryd.func52,Tryd.ntmps52
 go_upto_region 1 with (fail)
 rw [← Hcnt.out];have n0_:=HA.out.set 8 (by rw [HHl.out];decide) cnt;have n1_:=grown_set (World.grownBy.refl w (some g)) 8 (.int .u64 cnt);generalize World.setCell _ _ _ = w1 at n0_ n1_ ⊢;obtain ⟨H1,hH1⟩ : ∃ H1,H1 = H.set 8 cnt:=⟨_,rfl⟩;rw [← hH1] at n0_;have HH1l:=am (show H1.length = 9 by rw [hH1,List.length_set];exact HHl.out);have HH1:=am hH1;have HA1:=am n0_;have HG1:=am n1_;have HC1:=am (C_grown HC.out HG1.out HF.out);have HLTg:=am (HA1.out.lt (by rw [HH1l.out];decide));clear n0_ n1_ hH1 s0 s1
 go_upto_region 2 with (first
  | (go_at_call 68;with_reducible refine (HWO.out _ HC1.out).mono ?_;rintro e w2 ⟨rfl,hb_⟩;have B2:=am hb_;clear hb_)
  | ((with_reducible refine gate_dst (N:=6) rfl ?_);refine box_event ?hg (N:=6) ?hd (cs:=Z.toArray) (t:=91) ?hr ?_;(case hd=>rfl);(case hg=>rfl);(case hr=>first | (simp [execOp,Instr.alloc,HAL.out,newVar,newRow,go_sem];done) | (simp [execOp,Instr.alloc,HAL.out,newVar,newRow,go_sem];rfl));intro g6 hg_ w3 hbox_ hb_;have G6:=am hg_;have T6:=am (there_box hbox_);have B3:=am hb_;have LT6:=am (blk_lt hbox_);clear hg_ hbox_ hb_)
  | ((with_reducible refine gate_store (t:=91) (p:=6) rfl ?_);refine wpList_store_mid rfl 91 _ _ rfl g6 0 L6.toArray rfl rfl (by rw [List.size_toArray,HL6l.out,← HZl.out];exact T6.out) (by rw [List.size_toArray,HL6l.out];exact size_of info_a16) (all_oneCell_toArray HL6o.out) ?_))
 have n0_:=World.rangeAt_setCells_same w3 g6 0 L6 (by rw [HL6l.out,← HZl.out];exact T6.out);have n1_:=below_setCells g6 (by have:=G6.out;have:=B2.out.size;omega) L6 0 w3 (below_step B2.out B3.out);have n2_ : g6 < (w3.setCells g6 0 L6).heap.size:=Nat.lt_of_lt_of_le LT6.out (below_setCells (B:=0) g6 (Nat.zero_le _) L6 0 w3 (Below.refl 0 w3)).size;generalize World.setCells _ _ _ _ = w4 at n0_ n1_ n2_ ⊢;have R6:=am n0_;have B4:=am n1_;have LT6':=am n2_;clear n0_ n1_ n2_
 go_upto_region 3 with ((with_reducible refine gate_dst (N:=7) rfl ?_);refine box_event ?hg (N:=7) ?hd (cs:=Z.toArray) (t:=91) ?hr ?_;(case hd=>rfl);(case hg=>rfl);(case hr=>first | (simp [execOp,Instr.alloc,HAL.out,newVar,newRow,go_sem];done) | (simp [execOp,Instr.alloc,HAL.out,newVar,newRow,go_sem];rfl));intro g7 hg_ w5 hbox_ hb_;have G7:=am hg_;have T7:=am (there_box hbox_);have R7:=am (rangeAt_box hbox_);have B5:=am hb_;have LT7:=am (blk_lt hbox_);clear hg_ hbox_ hb_)
 go_upto_region 4 with (first
  | (go_at_call 51;with_reducible refine (HBE.out _).mono ?_;rintro e w6 ⟨rfl,hb_⟩;have B6:=am hb_;clear hb_)
  | ((with_reducible refine gate_dst (N:=8) rfl ?_);refine box_event ?hg (N:=8) ?hd (cs:=Z8.toArray) (t:=62) ?hr ?_;(case hd=>rfl);(case hg=>rfl);(case hr=>first | (simp [execOp,Instr.alloc,HAL8.out,newVar,newRow,go_sem];done) | (simp [execOp,Instr.alloc,HAL8.out,newVar,newRow,go_sem];rfl));intro g8 hg_ w7 hbox_ hb_;have G8:=am hg_;have T8:=am (there_box hbox_);have B7:=am hb_;have LT8:=am (blk_lt hbox_);clear hg_ hbox_ hb_)
  | ((with_reducible refine gate_store (t:=62) (p:=8) rfl ?_);refine wpList_store_mid rfl 62 _ _ rfl g8 0 L8.toArray rfl rfl (by rw [List.size_toArray,HL8l.out,← HZ8l.out];exact T8.out) (by rw [List.size_toArray,HL8l.out];exact size_of info_a8) (all_oneCell_toArray HL8o.out) ?_))
 have n0_:=World.rangeAt_setCells_same w7 g8 0 L8 (by rw [HL8l.out,← HZ8l.out];exact T8.out);have n1_:=below_setCells g8 (by have:=G8.out;have:=B6.out.size;omega) L8 0 w7 (below_step B6.out B7.out);have n2_ : g8 < (w7.setCells g8 0 L8).heap.size:=Nat.lt_of_lt_of_le LT8.out (below_setCells (B:=0) g8 (Nat.zero_le _) L8 0 w7 (Below.refl 0 w7)).size;generalize World.setCells _ _ _ _ = w8 at n0_ n1_ n2_ ⊢;have R8:=am n0_;have B8:=am n1_;have LT8':=am n2_;clear n0_ n1_ n2_;have a7 : Arr w5 g7 zero16:=⟨by rw [← HZ.out];exact R7.out,by have:=T7.out;rw [HZl.out] at this;exact this⟩;have A7:=am (a7.below B8.out LT7.out);have B18:=am (below_step (below_step B4.out B5.out) B8.out);have A8:=am (HA1.out.below B18.out HLTg.out);have R68:=am (rangeAt_below R6.out (below_step B5.out B8.out) LT6'.out)
 have ne1 : g7 ≠ g:=by have:=G7.out;have:=B4.out.size;have:=HLTg.out;omega
 have ne2 : g8 ≠ g:=by have:=G8.out;have:=B6.out.size;have:=B5.out.size;have:=B4.out.size;have:=HLTg.out;omega
 have ne3 : g6 ≠ g7:=by have:=G7.out;have:=LT6'.out;omega
 have ne4 : g8 ≠ g7:=by have:=G8.out;have:=B6.out.size;have:=LT7.out;omega
 have ne5 : g6 ≠ g:=by have:=G6.out;have:=B2.out.size;have:=HLTg.out;omega
 have N1:=am ne1;have N2:=am ne2;have N3:=am ne3;have N4:=am ne4;have N5:=am ne5;have G8':=am (grown_step HG1.out (below_grown B18.out (some g)));clear a7 ne1 ne2 ne3 ne4 ne5;have c4:=A7.out.drew.copied (P:=Tryd.prog) 0 (H1.take 8) (by rw [List.length_take,HH1l.out];decide) 107 107 3 61 16 16 8 8 Tryd.underlying107 info_u64 (by rw [List.length_take,HH1l.out];decide) (A8.out.drew.take 8);rw [show (H1.take 8).length = 8 by rw [List.length_take,HH1l.out];rfl] at c4;have C4:=am c4;clear c4;simp only [Act.put,List.setIfInBounds_toArray,List.set_cons_zero,List.set_cons_succ];refine start_ (n:=6) (S:=fun _=>True) (ds:=[5]) (bl 6 0) (by kernel_rfl) rfl rfl trivial (fun hHeld=>?_);refine with_tabW blake_block_r4.tab blake_block_r4.bits (fun HT_ HW_=>?_);refine p_ HT_ 0 (some 25) blake_block_r4.l0 ?_;refine p_ HT_ 1 (some 26) blake_block_r4.l1 ?_;refine p_ HT_ 2 (some 27) blake_block_r4.l2 ?_;refine p_ HT_ 3 (some 28) blake_block_r4.l3 ?_;refine p_ HT_ 4 (some 29) blake_block_r4.l4 ?_;refine last_ (i:=5) (N:=some 30) blake_block_r4.l5 rfl rfl (one_of HT_.out (by kernel_rfl)) (by decide) (fun K hK=>?_);clear hHeld;refine copy_step (by rfl) rfl (by rfl) (by rfl) C4.out ?_;refine hK.out _ _ ?_;clear hK K;refine nm (some 30) ?_;refine done_ (done_of HT_.out (by kernel_rfl)) ?_;clear HT_ HW_;have n0_:=A7.out.drew.splice 0 (H1.take 8) (by rw [List.length_take,HH1l.out];decide);have n1_:=grown_setCells 0 ((H1.take 8).map (Value.int .u64)) (grown_drew (World.grownBy.refl w8 (some g7)));generalize World.setCells _ _ _ _ = w9 at n0_ n1_ ⊢;have A9:=am n0_;have K9:=am n1_;clear n0_ n1_;have r9:=rangeAt_block R8.out (K9.out.block g8 LT8'.out (by have:=N4.out;simpa using this));have R9:=am r9;have c5:=A9.out.drew.copied (P:=Tryd.prog) 8 beginV (by rw [List.length_append,List.length_append,List.length_take,List.length_take,List.length_drop,HH1l.out];decide) 107 107 3 61 8 8 8 8 Tryd.underlying107 info_u64 rfl (by rw [← HL8.out];exact (World.rangeAt_drew _ _ _ _).2 R9.out);rw [show beginV.length = 8 from rfl] at c5;have C5:=am c5;clear c5 r9
 go_upto_region 5 with (fail)
 refine start_ (n:=3) (S:=fun _=>True) (ds:=[2]) (bl 3 0) (by kernel_rfl) rfl rfl trivial (fun hHeld=>?_);refine with_tabW blake_block_r5.tab blake_block_r5.bits (fun HT_ HW_=>?_);refine p_ HT_ 0 (some 31) blake_block_r5.l0 ?_;refine p_ HT_ 1 (some 32) blake_block_r5.l1 ?_;refine last_ (i:=2) (N:=some 33) blake_block_r5.l2 rfl rfl (one_of HT_.out (by kernel_rfl)) (by decide) (fun K hK=>?_);clear hHeld;refine copy_step (by rfl) rfl (by rfl) (by rfl) C5.out ?_;refine hK.out _ _ ?_;clear hK K;refine nm (some 33) ?_;refine done_ (done_of HT_.out (by kernel_rfl)) ?_;clear HT_ HW_;have n0_:=A9.out.drew.splice 8 beginV (by rw [List.length_append,List.length_append,List.length_take,List.length_take,List.length_drop,HH1l.out];decide);have n1_:=grown_setCells 8 (beginV.map (Value.int .u64)) (grown_drew K9.out);generalize World.setCells _ _ _ _ = w10 at n0_ n1_ ⊢
 have hve : ((zero16.take 0 ++ H1.take 8 ++ zero16.drop (0 + (H1.take 8).length)).take 8 ++ beginV ++ (zero16.take 0 ++ H1.take 8 ++ zero16.drop (0 + (H1.take 8).length)).drop (8 + beginV.length)) = H.take 8 ++ beginV:=by
  rw [HH1.out,List.take_set_of_le (by decide)]
  have h8 : (H.take 8).length = 8:=by rw [List.length_take,HHl.out];rfl
  rw [List.take_zero,List.nil_append,h8,List.take_append_of_le_length (by omega),List.take_of_length_le (by omega),show 8 + beginV.length = 16 from rfl,List.drop_of_length_le (l:=H.take 8 ++ zero16.drop (0 + 8)) (by rw [List.length_append,h8];decide),List.append_nil]
 rw [hve] at n0_;obtain ⟨V0,hV0⟩ : ∃ V,V = H.take 8 ++ beginV:=⟨_,rfl⟩;rw [← hV0] at n0_;have HV0:=am hV0
 have hV0l : V0.length = 16:=by rw [hV0,List.length_append,List.length_take,HHl.out];rfl
 have HV0l:=am hV0l;have A10:=am n0_;have K10:=am n1_;have A10g:=am (A8.out.grown (by rw [HH1l.out];decide) K10.out (by have:=N1.out;simpa using this.symm));clear n0_ n1_ hve hV0;obtain ⟨v_p,hv_p⟩ : ∃ v,v = V0.getD 12 0:=⟨_,rfl⟩;have s0:=A10.out.cell 12 (by omega);have s2:=A10.out.frozen 12 (by omega)
 have s1 : w10.cell? ⟨g,8,none⟩ = some (.int .u64 cnt):=by
  have:=A10g.out.cell 8 (by rw [HH1l.out];decide);rw [HH1.out] at this;rw [this]
  congr 2
  rw [List.getD_eq_getElem?_getD,List.getElem?_set_self (by rw [HHl.out];decide)];rfl
 rw [← hv_p] at s0;have Hv_p:=am hv_p;clear hv_p hV0l
 go_upto_region 6 with (fail)
 refine start_ (n:=9) (S:=fun w'=>w'.cell? ⟨g7,12,none⟩ = some (.int .u64 v_p) ∧ w'.cell? ⟨g,8,none⟩ = some (.int .u64 cnt) ∧ w'.frozen? ⟨g7,12,none⟩ = false) (ds:=[8]) (bl 9 0) (by kernel_rfl) rfl rfl ⟨s0,s1,s2⟩ (fun hHeld=>?_);refine with_tabW blake_block_r6.tab blake_block_r6.bits (fun HT_ HW_=>?_);refine p_ HT_ 0 (some 34) blake_block_r6.l0 ?_;refine tk HT_ HW_ hHeld 1 (some 35) blake_block_r6.l1 (hr:=by intro w' hs_;obtain ⟨s0,s1,s2⟩:=hs_;go_simp;with_reducible rfl) (h:=?_);refine p_ HT_ 2 (some 36) blake_block_r6.l2 ?_;refine p_ HT_ 3 (some 37) blake_block_r6.l3 ?_;refine p_ HT_ 4 (some 38) blake_block_r6.l4 ?_;refine tk HT_ HW_ hHeld 5 (some 39) blake_block_r6.l5 (hr:=by intro w' hs_;obtain ⟨s0,s1,s2⟩:=hs_;go_simp;with_reducible rfl) (h:=?_);refine p_ HT_ 6 (some 40) blake_block_r6.l6 ?_;refine p_ HT_ 7 (some 41) blake_block_r6.l7 ?_;refine last_ (i:=8) (N:=none) blake_block_r6.l8 rfl rfl (one_of HT_.out (by kernel_rfl)) (by decide) (fun K hK=>?_);clear hHeld;refine skip_ (w1:=World.setCell w10.drew ⟨g7,12,none⟩ (.int .u64 (Go.bits .xor .u64 v_p cnt))) (by rfl) rfl ?_ ?_
 ·go_simp
 refine hK.out _ _ ?_;clear hK K;refine done_ (done_of HT_.out (by kernel_rfl)) ?_;clear HT_ HW_;have n0_:=A10.out.drew.set 12 (by rw [HV0l.out];decide) (Go.bits .xor .u64 v_p cnt);have n1_:=grown_set (grown_drew K10.out) 12 (.int .u64 (Go.bits .xor .u64 v_p cnt));generalize World.setCell _ _ _ = w11 at n0_ n1_ ⊢;obtain ⟨V1,hV1⟩ : ∃ V,V = V0.set 12 (Go.bits .xor .u64 v_p cnt):=⟨_,rfl⟩;rw [← hV1] at n0_
 have hV1l : V1.length = 16:=by rw [hV1,List.length_set];exact HV0l.out
 have A11:=am n0_;have K11:=am n1_;have HV1:=am hV1;have HV1l:=am hV1l;clear n0_ n1_ hV1 s0 s1 s2;obtain ⟨v_e,hv_e⟩ : ∃ v,v = V1.getD 14 0:=⟨_,rfl⟩;have s0:=A11.out.cell 14 (by omega);have s1:=A11.out.frozen 14 (by omega);rw [← hv_e] at s0;have Hv_e:=am hv_e;clear hv_e hV1l;obtain ⟨w12,V2,hw12,hV2⟩ : ∃ (w12 : World) (V2 : List Int),(w12 = if last then w11.setCell ⟨g7,14,none⟩ (.int .u64 (notU v_e)) else w11) ∧ V2 = if last then V1.set 14 (notU v_e) else V1:=⟨_,_,rfl,rfl⟩
 have a12 : Arr w12 g7 V2:=by
  rw [hw12,hV2];cases last
  ·exact A11.out
  ·exact A11.out.set 14 (by rw [HV1l.out];decide) _
 have k12 : w8.grownBy w12 (some g7):=by
  rw [hw12];cases last
  ·exact K11.out
  ·exact grown_set K11.out 14 _
 have v12 : V2 = vInit H (countL H l.length) last:=by
  have hc : countL H l.length = cnt:=by rw [Hcnt.out,Hc0.out];rfl
  rw [hV2,Hv_e.out,HV1.out,Hv_p.out,HV0.out,hc]
  rfl
 have A12:=am a12;have K12:=am k12;have HV2:=am v12;have HW12:=am hw12
 have g7n : w.heap.size ≤ g7:=by have:=G7.out;have:=B4.out.size;have:=HG1.out.size;omega
 have G12:=am (grown_new G8'.out K12.out g7n);have HT12:=am (HTs.out.grown G12.out Hg0.out);have HV2l:=am (show V2.length = 16 by rw [v12];exact vInit_length _ _ _ HHl.out);have R6c:=am (rangeAt_block R68.out (K12.out.block g6 (Nat.lt_of_lt_of_le LT6'.out (below_step B5.out B8.out).size) (by have:=N3.out;simpa using this)));have Ag:=am (A8.out.grown (by rw [HH1l.out];decide) K12.out (by have:=N1.out;simpa using this.symm));have G7n:=am g7n;have LT7c:=am (A12.out.lt (by rw [HV2l.out];decide));have LTgc:=am (Ag.out.lt (by rw [HH1l.out];decide));have LT6c : Aside0 (g6 < w12.heap.size):=⟨Nat.lt_of_lt_of_le LT6'.out (Nat.le_trans (below_step B5.out B8.out).size K12.out.size)⟩;obtain ⟨VF,hVF⟩ : ∃ V,V = roundsF (wordsL l) (List.range 12) V2:=⟨_,rfl⟩;have HVF:=am hVF;have HVFl:=am (show VF.length = 16 by rw [hVF,roundsF_length];exact HV2l.out)
 have HRO : Aside0 (∀ (V : List Int) (j : Nat) (w : World),V.length = 16 → j < 10 → Arr w g7 V → Calls Tryd.prog 70 #[.pointer (some ⟨g7,0,none⟩),.agg L6.toArray,.string (rowOf j)] w fun e w'=>e = .returned (.tuple #[]) ∧ Arr w' g7 (roundL V (wordsL l) (permOf j)) ∧ w.grownBy w' (some g7)):=⟨fun V j w hV hj hA=>by
  rw [HL6.out]
  exact blake_round.calls g7 V (wordsL l) (rowOf j) (permOf j) w hV (wordsL_length l) (order_of ⟨j,hj⟩) hA⟩
 have HI6:=am (show (Tryd.prog.info? 91).map (·.size) = some L6.length by rw [HL6l.out];exact size_of info_a16)
 have HBF : Aside0 (outF VF (List.range 8) H1 = blockL H l last):=⟨by
  have hc : countL H l.length = cnt:=by rw [Hcnt.out,Hc0.out];rfl
  rw [HVF.out,HV2.out,HH1.out,← hc];rfl⟩
 clear a12 k12 v12 hw12 hV2 g7n hVF;cases last
 all_goals (
  go_upto_region 9 with (fail)
  first
   | (rw [← show w12 = w11.setCell ⟨g7,14,none⟩ (.int .u64 (Go.bits .xor .u64 (if IntKind.u64.signed = true then -1 else IntKind.u64.max) v_e)) from HW12.out])
   | (rw [← show w12 = w11 from HW12.out])
  clear s0 s1
  go_upto_region 10 with (go_at_call 69;with_reducible refine (fields_calls _ (by kernel_rfl) _ HT12.out).mono ?_;rintro e w13 ⟨gL,rfl,hr_,hlt_,hb_⟩;have RL:=am hr_;have LTL:=am hlt_;have B13:=am hb_;clear hr_ hlt_ hb_)
  have A13:=am (A12.out.below B13.out LT7c.out);have Ag13:=am (Ag.out.below B13.out LTgc.out);have R613:=am (rangeAt_below R6c.out B13.out LT6c.out);have G13:=am (grown_below G12.out B13.out);have LT613 : Aside0 (g6 < w13.heap.size):=⟨Nat.lt_of_lt_of_le LT6c.out B13.out.size⟩;have LTg13 : Aside0 (g < w13.heap.size):=⟨Nat.lt_of_lt_of_le LTgc.out B13.out.size⟩;have NL : Aside0 (gL ≠ g7):=⟨fun e=>by have:=A13.out.cell 0 (by rw [HV2l.out];decide);have h2:=RL.out 0 _ rfl;rw [e,this] at h2;cases h2⟩
  go_wp2
  go_loopw [48] (fun i wr=>∃ x : Int,i = .int .i64 x ∧ (0 ≤ x ∧ x ≤ 12) ∧ Aside0 (∃ V,V.length = 16 ∧ Arr wr g7 V ∧ roundsF (wordsL l) (List.range' x.toNat (12 - x.toNat)) V = VF) ∧ Aside0 (w13.grownBy wr (some g7)))
   (fun i _=>12 - (intOf i).toNat)
  case atStart=>exact ⟨0,rfl,⟨by omega,by omega⟩,⟨V2,HV2l.out,A13.out,by rw [HVF.out,List.range_eq_range'];rfl⟩,⟨World.grownBy.refl _ _⟩⟩
  case round=>
   obtain ⟨x,rfl,⟨hx0,hx1⟩,HV,HG⟩:=hrel;obtain ⟨V,hVl,hV,hR⟩:=HV.out
   by_cases hlt : x < 12
   ·have d0 : decide (x < 12) = true:=decide_eq_true hlt;obtain ⟨q,hq⟩ : ∃ q,x.tmod 10 = q:=⟨_,rfl⟩
    have hq' : q = x % 10:=by rw [← hq,Int.tmod_eq_emod_of_nonneg hx0]
    have q0 : 0 ≤ q:=by omega
    have q1 : q < 10:=by omega
    have xw : wrap64 (x + 1) = x + 1:=by unfold wrap64;omega
    have s0:=rangeAt_block R613.out (HG.out.block g6 LT613.out (by have:=N3.out;simpa using this));have rl:=rangeAt_block RL.out (HG.out.block gL LTL.out (by have:=NL.out;simpa using this))
    have s1 : wr.cell? ⟨gL,q.toNat,none⟩ = some (.string (rowOf q.toNat)):=by
     have:=rl q.toNat (.string (rowOf q.toNat)) (by
      unfold orderRows
      rw [List.getElem?_map,List.getElem?_range (by omega)];rfl)
     rwa [Nat.zero_add] at this
    have HVA:=am hV;have HVl:=am hVl;have HR:=am hR;have HQ:=am hq';clear rl hV hVl hR hq' HV
    go_upto_region 13 with (fail)
    refine start_ (n:=9) (S:=fun w'=>w'.rangeAt g6 0 L6 ∧ w'.cell? ⟨gL,q.toNat,none⟩ = some (.string (rowOf q.toNat))) (ds:=[8]) (bl 9 0) (by kernel_rfl) rfl rfl ⟨s0,s1⟩ (fun hHeld=>?_);refine with_tabW blake_block_r13.tab blake_block_r13.bits (fun HT_ HW_=>?_);refine tk HT_ HW_ hHeld 0 (some 51) blake_block_r13.l0 (hr:=by intro w' hs_;obtain ⟨s0,s1⟩:=hs_;refine load_run (ty:=91) (y:= .tmp 6) (g:=g6) (L:=L6) ?_ ?_ s0 Tryd.underlying91 rfl HI6.out <;> rfl) (h:=?_);refine p_ HT_ 1 (some 52) blake_block_r13.l1 ?_;refine p_ HT_ 2 (some 53) blake_block_r13.l2 ?_;refine p_ HT_ 3 (some 54) blake_block_r13.l3 ?_;refine p_ HT_ 4 (some 55) blake_block_r13.l4 ?_;refine p_ HT_ 5 (some 56) blake_block_r13.l5 ?_;refine p_ HT_ 6 (some 57) blake_block_r13.l6 ?_;refine tk HT_ HW_ hHeld 7 (some 58) blake_block_r13.l7 (hr:=by intro w' hs_;obtain ⟨s0,s1⟩:=hs_;go_simp;with_reducible rfl) (h:=?_);refine last_ (i:=8) (N:=some 59) blake_block_r13.l8 rfl rfl (one_of HT_.out (by kernel_rfl)) (by decide) (fun K hK=>?_);clear hHeld;refine gs Tryd.func70 #[.pointer (some ⟨g7,0,none⟩),.agg L6.toArray,.string (rowOf q.toNat)] ?_;refine (HRO.out V q.toNat _ HVl.out (by omega) HVA.out.drew).mono ?_;rintro e wn ⟨rfl,ha_,hg_⟩;refine ⟨_,rfl,?_⟩;refine hK.out _ _ ?_;clear hK K;refine nm (some 59) ?_;refine done_ (done_of HT_.out (by kernel_rfl)) ?_;clear HT_ HW_;have HA2:=am ha_;have HG2:=am (grown_step (grown_drew HG.out) hg_);clear ha_ hg_ s0 s1
    go_wp2
    have hq':=HQ.out
    have e : x.toNat % 10 = q.toNat:=by omega
    exact ⟨⟨x + 1,by first | rfl | (rw [xw]) | (simp [xw]),⟨by omega,by omega⟩,⟨_,(roundL_length _ _ _).trans HVl.out,HA2.out,by rw [show (x + 1).toNat = x.toNat + 1 by omega,← e];exact rounds_rest _ _ _ x.toNat (by omega) HR.out⟩,HG2⟩,by simp [intOf];omega⟩
   ·have d0 : decide (x < 12) = false:=decide_eq_false hlt
    have hx : x = 12:=by omega
    subst hx;have hve : V = VF:=hR;subst hve;have A14:=am hV;have K14:=am HG.out;have Ag14:=am (Ag13.out.grown (by rw [HH1l.out];decide) HG.out (by have:=N1.out;simpa using this.symm));have G14:=am (grown_new G13.out HG.out G7n.out);have LT14:=am (A14.out.lt (by rw [hVl];decide));have HVl:=am hVl;obtain ⟨wA,hwA⟩ : ∃ wA,wA = wr:=⟨_,rfl⟩;subst hwA;clear hV hVl hR HV hx0 hx1 hlt HG
    go_wp2
    go_loopw [61] (fun i wr=>∃ x : Int,i = .int .i64 x ∧ (0 ≤ x ∧ x ≤ 8) ∧ Aside0 (∃ Hx,Hx.length = 9 ∧ Arr wr g Hx ∧ outF V (List.range' x.toNat (8 - x.toNat)) Hx = outF V (List.range 8) H1) ∧ Aside0 (wA.grownBy wr (some g)))
     (fun i _=>8 - (intOf i).toNat)
    case atStart=>exact ⟨0,rfl,⟨by omega,by omega⟩,⟨H1,HH1l.out,Ag14.out,by rw [List.range_eq_range'];rfl⟩,⟨World.grownBy.refl _ _⟩⟩
    case round=>
    obtain ⟨x,rfl,⟨hx0,hx1⟩,HV,HG⟩:=hrel;obtain ⟨Hx,hHl,hHx,hR⟩:=HV.out
    by_cases hlt : x < 8
    ·have d0 : decide (x < 8) = true:=decide_eq_true hlt;obtain ⟨y,hy⟩ : ∃ y,wrap64 (x + 8) = y:=⟨_,rfl⟩
     have hy' : y = x + 8:=by rw [← hy];unfold wrap64;omega
     have y0 : 0 ≤ y:=by omega
     have y1 : y < 16:=by omega
     have x16 : x < 16:=by omega
     have xw : wrap64 (x + 1) = x + 1:=by unfold wrap64;omega
     have a7:=A14.out.grown (by rw [HVl.out];decide) HG.out (by have:=N1.out;simpa using this);obtain ⟨v_h,hv_h⟩ : ∃ v,v = Hx.getD x.toNat 0:=⟨_,rfl⟩;obtain ⟨v_p,hv_p⟩ : ∃ v,v = V.getD x.toNat 0:=⟨_,rfl⟩;obtain ⟨v_q,hv_q⟩ : ∃ v,v = V.getD y.toNat 0:=⟨_,rfl⟩;have s0:=hHx.cell x.toNat (by omega);have s1:=a7.cell x.toNat (by rw [HVl.out];omega);have s2:=a7.cell y.toNat (by rw [HVl.out];omega);have s3:=hHx.frozen x.toNat (by omega);rw [← hv_h] at s0;rw [← hv_p] at s1;rw [← hv_q] at s2;have Hv_h:=am hv_h;have Hv_p2:=am hv_p;have Hv_q:=am hv_q;have HHx:=am hHx;have HHl2:=am hHl;have HR:=am hR;have HY:=am hy';clear a7 hv_h hv_p hv_q hHx hHl hR hy' HV
     go_upto_region 18 with (fail)
     refine start_ (n:=19) (S:=fun w'=>w'.cell? ⟨g,x.toNat,none⟩ = some (.int .u64 v_h) ∧ w'.cell? ⟨g7,x.toNat,none⟩ = some (.int .u64 v_p) ∧ w'.cell? ⟨g7,y.toNat,none⟩ = some (.int .u64 v_q) ∧ w'.frozen? ⟨g,x.toNat,none⟩ = false) (ds:=[18]) (bl 19 0) (by kernel_rfl) rfl rfl ⟨s0,s1,s2,s3⟩ (fun hHeld=>?_);refine with_tabW blake_block_r18.tab blake_block_r18.bits (fun HT_ HW_=>?_);refine p_ HT_ 0 (some 64) blake_block_r18.l0 ?_;refine p_ HT_ 1 (some 65) blake_block_r18.l1 ?_;refine p_ HT_ 2 (some 66) blake_block_r18.l2 ?_;refine p_ HT_ 3 (some 67) blake_block_r18.l3 ?_;refine p_ HT_ 4 (some 68) blake_block_r18.l4 ?_;refine tk HT_ HW_ hHeld 5 (some 69) blake_block_r18.l5 (hr:=by intro w' hs_;obtain ⟨s0,s1,s2,s3⟩:=hs_;go_simp;with_reducible rfl) (h:=?_);refine p_ HT_ 6 (some 70) blake_block_r18.l6 ?_;refine p_ HT_ 7 (some 71) blake_block_r18.l7 ?_;refine tk HT_ HW_ hHeld 8 (some 72) blake_block_r18.l8 (hr:=by intro w' hs_;obtain ⟨s0,s1,s2,s3⟩:=hs_;go_simp;with_reducible rfl) (h:=?_);refine p_ HT_ 9 (some 73) blake_block_r18.l9 ?_;refine p_ HT_ 10 (some 74) blake_block_r18.l10 ?_;refine p_ HT_ 11 (some 75) blake_block_r18.l11 ?_;refine tk HT_ HW_ hHeld 12 (some 76) blake_block_r18.l12 (hr:=by intro w' hs_;obtain ⟨s0,s1,s2,s3⟩:=hs_;go_simp;with_reducible rfl) (h:=?_);refine p_ HT_ 13 (some 77) blake_block_r18.l13 ?_;refine p_ HT_ 14 (some 78) blake_block_r18.l14 ?_;refine p_ HT_ 15 (some 79) blake_block_r18.l15 ?_;refine p_ HT_ 16 (some 80) blake_block_r18.l16 ?_;refine p_ HT_ 17 (some 81) blake_block_r18.l17 ?_;refine last_ (i:=18) (N:=none) blake_block_r18.l18 rfl rfl (one_of HT_.out (by kernel_rfl)) (by decide) (fun K hK=>?_);clear hHeld;refine skip_ (w1:=World.setCell wr.drew ⟨g,x.toNat,none⟩ (.int .u64 (Go.bits .xor .u64 v_h (Go.bits .xor .u64 v_p v_q)))) (by rfl) rfl ?_ ?_
     ·go_simp
     refine hK.out _ _ ?_;clear hK K;refine done_ (done_of HT_.out (by kernel_rfl)) ?_;clear HT_ HW_;have n0_:=HHx.out.drew.set x.toNat (by rw [HHl2.out];omega) (Go.bits .xor .u64 v_h (Go.bits .xor .u64 v_p v_q));have n1_:=grown_set (grown_drew HG.out) x.toNat (.int .u64 (Go.bits .xor .u64 v_h (Go.bits .xor .u64 v_p v_q)));generalize World.setCell _ _ _ = wn at n0_ n1_ ⊢;have HA2:=am n0_;have HG2:=am n1_;clear n0_ n1_ s0 s1 s2 s3
     go_wp2
     have hy':=HY.out
     have e : y.toNat = x.toNat + 8:=by omega
     exact ⟨⟨x + 1,by first | rfl | (rw [xw]) | (simp [xw]),⟨by omega,by omega⟩,⟨_,(List.length_set).trans HHl2.out,HA2.out,by rw [show (x + 1).toNat = x.toNat + 1 by omega,Hv_h.out,Hv_p2.out,Hv_q.out,e];exact out_rest _ _ _ x.toNat (by omega) HR.out⟩,HG2⟩,by simp [intOf];omega⟩
    ·have d0 : decide (x < 8) = false:=decide_eq_false hlt
     have hx : x = 8:=by omega
     subst hx;have hR' : Hx = outF V (List.range 8) H1:=hR;have HR:=am hR';have HHx:=am hHx;clear hR hR' hHx HV hx0 hx1 hlt
     go_wp2
     refine bodyPost_end (v:= .tuple #[]) (results_none rfl _ _ _) rfl ?_;refine ⟨rfl,?_,grown_step G14.out HG.out⟩
     rw [← HBF.out,← HR.out];exact HHx.out)
end Go.Proofs.YtilckocpgififaaDoor.G
