/- blake.Keyed: the digest of rows, with a key (laid by mkkeyed.py) -/
import Derived.Test.YtilckocpgififaaDoorScHStep
import Derived.Test.YtilckocpgififaaDoorScBArr
import Derived.Test.YtilckocpgififaaDoorScBBlock
import Derived.Test.YtilckocpgififaaDoorScBArrB
namespace Go.Proofs.YtilckocpgififaaDoor.G
open Go.RowKit Go.Proofs.YtilckocpgififaaDoorW.PrintWords Go.Proofs.YtilckocpgififaaDoorW.PrintLast Go.Proofs.YtilckocpgififaaDoorW.PrintMore
set_option linter.unusedVariables false
set_option linter.unusedSimpArgs false
def mark : Int:=16842784
def keyBlock (k : List Int) : List Int:=if k.length = 0 then [] else k ++ List.replicate (128 - k.length) 0
def keyState (n : Nat) : List Int:=(beginV ++ [0]).set 0 (Go.bits .xor .u64 ((beginV ++ [0]).getD 0 0) (Go.bits .xor .u64 mark (shl .u64 (wr (n : Int)) 8)))
def blocksF : Nat → List Int → List Int → List Int
 | 0,all,H=>blockL H all true
 | n + 1,all,H=>if 128 < all.length then blocksF n (all.drop 128) (blockL H (all.take 128) false) else blockL H all true
def outB (H : List Int) (i : Nat) : Int:=IntKind.u8.wrap (shr .u64 (H.getD (i / 8) 0) (8 * ((i % 8 : Nat) : Int)))
def digestL (H : List Int) : List Int:=(List.range 32).map (outB H)
def keyedL (key p : List Int) : List Int:=digestL (blocksF (keyBlock (key.take 64) ++ p).length (keyBlock (key.take 64) ++ p) (keyState (key.take 64).length))
theorem blocksF_more : ∀ (n m : Nat) (all H : List Int),all.length ≤ n → n ≤ m → blocksF m all H = blocksF n all H
 | 0,m,all,H,h,_=>by
   have : ¬ 128 < all.length:=by omega
   cases m with
   | zero=>rfl
   | succ m=>simp only [blocksF,if_neg this]
 | n + 1,m,all,H,h,hm=>by
   obtain ⟨m,rfl⟩ : ∃ k,m = k + 1:=⟨m - 1,by omega⟩;rw [blocksF,blocksF]
   by_cases c : 128 < all.length
   rotate_left
   ·rw [if_neg c,if_neg c]
   rw [if_pos c,if_pos c];exact blocksF_more n m _ _ (by rw [List.length_drop];omega) (by omega)
def zero32 : List Int:=List.replicate 32 0
theorem info_a32 : (Tryd.prog.info? 31).map (fun i=>(i.zero,i.size)) = some (some (.agg (zero32.map (Value.int .u8)).toArray),32):=by kernel_rfl
theorem built_hash : Tryd.prog.built 31 [] = some (zero32.map (Value.int .u8)).toArray:=by kernel_rfl
theorem built_state : Tryd.prog.built 89 [(0,.agg (beginV.map (Value.int .u64)).toArray)] = some ((beginV ++ [0]).map (Value.int .u64)).toArray:=by kernel_rfl
theorem keyBlock_bytes (k : List Int) (h : ∀ c ∈ k,0 ≤ c ∧ c < 256) : ∀ c ∈ keyBlock k,0 ≤ c ∧ c < 256:=by
 unfold keyBlock
 by_cases h0 : k.length = 0
 ·rw [if_pos h0];intro c hc;cases hc
 rw [if_neg h0];intro c hc
 rcases List.mem_append.1 hc with hc | hc
 ·exact h c hc
 ·rw [List.eq_of_mem_replicate hc];omega
def sliceLen : Value → Nat
 | .slice _ n _=>n
 | _=>0
theorem blocks_step (r H : List Int) (h : 128 < r.length) : blocksF r.length r H = blocksF (r.drop 128).length (r.drop 128) (blockL H (r.take 128) false):=by
 obtain ⟨n,hn⟩ : ∃ n,r.length = n + 1:=⟨r.length - 1,by omega⟩;rw [hn,blocksF,if_pos h];exact blocksF_more _ _ _ _ (Nat.le_refl _) (by rw [List.length_drop];omega)
theorem blocks_end (r H : List Int) (h : ¬ 128 < r.length) : blocksF r.length r H = blockL H r true:=by
 cases hn : r.length with
 | zero=>rfl
 | succ n=>rw [blocksF,if_neg h]
def digestTo (H : List Int) (x : Nat) : List Int:=(List.range 32).map fun i=>if i < x then outB H i else 0
theorem digestTo_length (H : List Int) (x : Nat) : (digestTo H x).length = 32:=by simp [digestTo]
theorem digestTo_zero (H : List Int) : digestTo H 0 = zero32:=by
 unfold digestTo zero32
 apply List.ext_getElem (by simp)
 intro i h1 h2;rw [List.getElem_map,List.getElem_replicate,if_neg (by omega)]
theorem digestTo_set (H : List Int) (x : Nat) (h : x < 32) : (digestTo H x).set x (outB H x) = digestTo H (x + 1):=by
 apply List.ext_getElem (by simp [digestTo])
 intro i h1 h2
 have hi : i < 32:=by simpa [digestTo] using h2
 rw [List.getElem_set];simp only [digestTo,List.getElem_map,List.getElem_range]
 by_cases e : x = i
 ·subst e;simp
 rw [if_neg e]
 by_cases hlt : i < x
 ·rw [if_pos hlt,if_pos (by omega)]
 rw [if_neg hlt,if_neg (by omega)]
theorem digestTo_all (H : List Int) : digestTo H 32 = digestL H:=by
 unfold digestTo digestL
 apply List.map_congr_left
 intro i hi;rw [if_pos (List.mem_range.1 hi)]
theorem keyedL_length (key p : List Int) : (keyedL key p).length = 32:=by simp [keyedL,digestL]
theorem info_u8s : ∃ i,Tryd.prog.info? 5 = some i ∧ i.size = 1:=by
 obtain ⟨i,hi,hzz⟩:=Option.map_eq_some_iff.1 info_u8z;simp only [Prod.mk.injEq] at hzz;exact ⟨i,hi,hzz.2.1⟩
theorem there_of_below {w w' : World} {g B n : Nat} (h : w.there g 0 n) (hb : Below B w w') (hg : g < B) : w'.there g 0 n:=fun j hj=>⟨by rw [hb.cell (p:=⟨g,0 + j,none⟩) hg];exact (h j hj).1,by rw [hb.frozen (p:=⟨g,0 + j,none⟩) hg];exact (h j hj).2⟩
theorem there_of_block {w w' : World} {g n : Nat} (h : w.there g 0 n) (hb : w'.heap[g]? = w.heap[g]?) : w'.there g 0 n:=fun j hj=>⟨by rw [World.cell?_of_block (a:=⟨g,0 + j,none⟩) hb];exact (h j hj).1,by rw [World.frozen?_of_block (a:=⟨g,0 + j,none⟩) hb];exact (h j hj).2⟩
theorem build_run1 {P : Program} {o : Oper} {a : Act} {W : World} {t : TypeId} {x : Operand} {v0 v : Value} (ho : o.op = .build t #[(0,x)]) (hx : a.eval x = v0) (hr : (Instr.build t #[(0,v0)]).run P W = .ok v W) : (execOp a.eval o).run P W = .ok (.value v) W:=by
 unfold execOp
 simp only [ho,List.map_toArray,List.map_cons,List.map_nil,hx,Sem.run_bind,hr,Result.andThen_ok,Sem.run_pure]
theorem build_run0 {P : Program} {o : Oper} {a : Act} {W : World} {t : TypeId} {v : Value} (ho : o.op = .build t #[]) (hr : (Instr.build t #[]).run P W = .ok v W) : (execOp a.eval o).run P W = .ok (.value v) W:=by
 unfold execOp
 simp only [ho,List.map_toArray,List.map_nil,Sem.run_bind,hr,Result.andThen_ok,Sem.run_pure]
def blake_keyed_r7.T : Bool × List (List Nat × List Nat):=(true,[([],[]),([0],[0]),([1],[1]),([2],[2]),([3],[3]),([],[]),([5],[5]),([6],[6]),([7],[7]),([8],[8]),([4,9],[4,9]),([0],[0]),([11],[11]),([12,0,1,2,3,4,5,6,7,8,9,10],[12]),([13,10,0,1,2,3,4,5,6,7,8,9,10],[10,13])])
def blake_keyed_r7.B : List Nat:=[0,1,3,7,15,0,32,96,224,480,1023,1,2049,8191,16383]
theorem blake_keyed_r7.tab : rtab .any (opsOf Tryd.f30 7) = blake_keyed_r7.T:=by kernel_rfl
theorem blake_keyed_r7.bits : waitsOk blake_keyed_r7.T.2 blake_keyed_r7.B = true:=by kernel_rfl
def blake_keyed_r7.l0 : Array Bool:=bl 15 1
def blake_keyed_r7.l1 : Array Bool:=bl 15 3
def blake_keyed_r7.l2 : Array Bool:=bl 15 7
def blake_keyed_r7.l3 : Array Bool:=bl 15 15
def blake_keyed_r7.l4 : Array Bool:=bl 15 31
def blake_keyed_r7.l5 : Array Bool:=bl 15 63
def blake_keyed_r7.l6 : Array Bool:=bl 15 127
def blake_keyed_r7.l7 : Array Bool:=bl 15 255
def blake_keyed_r7.l8 : Array Bool:=bl 15 511
def blake_keyed_r7.l9 : Array Bool:=bl 15 1023
def blake_keyed_r7.l10 : Array Bool:=bl 15 2047
def blake_keyed_r7.l11 : Array Bool:=bl 15 4095
def blake_keyed_r7.l12 : Array Bool:=bl 15 8191
def blake_keyed_r7.l13 : Array Bool:=bl 15 16383
def blake_keyed_r7.l14 : Array Bool:=bl 15 32767
set_option maxRecDepth 100000 in
set_option maxHeartbeats 16000000 in
theorem blake_Keyed.calls (A B : Option Addr) (ca cb : Nat) (key : List Int) (l : List (List Int)) (w : World) (hK : Kd.C (Kd.int .u8) w A key.length key) (hka : key.length ≤ ca) (hL : Kd.C (Kd.slice 5 (Kd.int .u8)) w B l.length l) (hlb : l.length ≤ cb)
 (hk1 : key.length ≤ 10000000) (hl1 : l.length ≤ 10000000) (hl2 : l.flatten.length ≤ 10000000) (hkb : ∀ c ∈ key,0 ≤ c ∧ c < 256) (hlB : ∀ c ∈ l.flatten,0 ≤ c ∧ c < 256) (hT : Spaces w) :
 Calls Tryd.prog 30 #[.slice A key.length ca,.slice B l.length cb] w fun e w'=>e = .returned (.agg ((keyedL key l.flatten).map (Value.int .u8)).toArray) ∧ Below w.heap.size w w':=by
 obtain ⟨Z,hZ⟩ : ∃ Z,Z = zero32.map (Value.int .u8):=⟨_,rfl⟩
 have hZl : Z.length = 32:=by rw [hZ];rfl
 have HAL : Aside0 (∀ w,(zeroValue 31).run Tryd.prog w = .ok (.agg Z.toArray) w):=⟨fun w=>by rw [hZ];exact zero_run info_a32 w⟩;obtain ⟨k,hk⟩ : ∃ k,k = key.take 64:=⟨_,rfl⟩;obtain ⟨m,hmin⟩ : ∃ m : Int,min (key.length : Int) 64 = m:=⟨_,rfl⟩
 have hkl : k.length = min 64 key.length:=by rw [hk,List.length_take]
 have hmt : m.toNat = k.length:=by omega
 have hm0 : 0 ≤ m:=by omega
 have hmc : m ≤ (ca : Int):=by omega
 have hkC : Kd.C (Kd.int .u8) w A k.length k:=by
  by_cases h64 : 64 ≤ key.length
  ·rw [hk];exact Kd.C_take hK h64
  rw [hk,List.take_of_length_le (by omega)];exact hK
 have hk64 : k.length ≤ 64:=by omega
 have hkB : ∀ c ∈ k,0 ≤ c ∧ c < 256:=by rw [hk];exact fun c hc=>hkb c (List.mem_of_mem_take hc)
 obtain ⟨L8,hL8⟩ : ∃ L,L = beginV.map (Value.int .u64):=⟨_,rfl⟩;obtain ⟨L9,hL9⟩ : ∃ L,L = (beginV ++ [0]).map (Value.int .u64):=⟨_,rfl⟩;have HBE : Aside0 (∀ w,Calls Tryd.prog 51 #[] w fun e w'=>e = .returned (.agg L8.toArray) ∧ Below w.heap.size w w'):=⟨fun w=>by rw [hL8];exact blake_begin.calls w⟩;have HBS : Aside0 (∀ w,(Instr.build 89 #[(0,.agg L8.toArray)]).run Tryd.prog w = .ok (.agg L9.toArray) w):=⟨fun w=>by rw [hL8,hL9];exact run_build w _ _ _ built_state⟩;have HBH : Aside0 (∀ w,(Instr.build 31 #[]).run Tryd.prog w = .ok (.agg Z.toArray) w):=⟨fun w=>by rw [hZ];exact run_build w _ _ _ built_hash⟩;have HL9:=am hL9;have HZ:=am hZ;have HZl:=am hZl;have HKC:=am hkC;have HL:=am hL;have HTs:=am hT;have Hk:=am hk;have Hk64:=am hk64;have HkB:=am hkB;have HlB:=am hlB;have Hl1:=am hl1;have Hl2:=am hl2;have HKE : Aside0 (keyedL key l.flatten = digestL (blocksF (keyBlock k ++ l.flatten).length (keyBlock k ++ l.flatten) (keyState k.length))):=⟨by rw [hk];rfl⟩;clear hZ hZl hK hL hT hk hkC hL8 hL9 hkB hkb hlB hl1 hl2 hkl;go_enter Tryd.func30,Tryd.ntmps30
 go_upto_region 1 with ((with_reducible refine gate_dst (N:=4) rfl ?_);refine box_event ?hg (N:=4) ?hd (cs:=Z.toArray) (t:=31) ?hr ?_;(case hd=>rfl);(case hg=>rfl);(case hr=>first | (simp [execOp,Instr.alloc,HAL.out,newVar,newRow,go_sem];done) | (simp [execOp,Instr.alloc,HAL.out,newVar,newRow,go_sem];rfl));intro g4 hg_ w1 hbox_ hb_;have G4:=am hg_;have T4:=am (there_box hbox_);have B1:=am hb_;have LT4:=am (blk_lt hbox_);clear hg_ hbox_ hb_)
 go_upto_region 3 with (fail)
 have HK1:=am (Kd.C_below HKC.out B1.out);have HL1:=am (Kd.C_below HL.out B1.out)
 by_cases hk0 : k.length = 0
 all_goals (
  first
   | (
     have hk0_ : k.length = 0:=hk0;have d0 : decide ((k.length : Int) > 0) = false:=decide_eq_false (by omega);have HK0:=am hk0
     go_upto_region 5 with (fail)
     obtain ⟨w4,hw4⟩ : ∃ w4,w4 = w1:=⟨_,rfl⟩;rw [← hw4];obtain ⟨v5,hv5⟩ : ∃ v : Value,v = .slice none 0 0:=⟨_,rfl⟩;have HA5 : Aside0 (Kd.R (Kd.int .u8) 5 w4 w1.heap.size (fun _=>True) v5 (keyBlock k)):=⟨by rw [hv5,hw4];unfold keyBlock;rw [if_pos HK0.out];exact R_nil _ _⟩;have HB5 : Aside0 (Below w1.heap.size w1 w4):=⟨by rw [hw4];exact Below.refl _ _⟩;simp only [← hv5]
     clear hw4 hv5 d0 hk0)
   | (
     have hk0_ : ¬ k.length = 0:=hk0;have d0 : decide ((k.length : Int) > 0) = true:=decide_eq_true (by omega)
     go_wp2_with (first
      | (go_at_call 48;with_reducible refine (clone_calls A ca k _ HK1.out (by have:=Hk64.out;omega)).mono ?_;rintro e w2 ⟨v2,rfl,hR_,hb_⟩;have HR2:=am hR_;have B2:=am hb_;clear hR_ hb_)
      | ((with_reducible refine gate_builtin (b:= .append) (xs:=#[.tmp 18,.tmp 21]) rfl ?_);at_builtin;refine Aside0.out ?_))
     refine am ?_;refine zeros_event (w0:=w1) w1.heap.size rfl (.tmp 18) (.tmp 21) 26 3 5 rfl Tryd.underlying26 Tryd.underlying3 info_u8z v2 k (128 - k.length) _ ?hmi (by have:=Hk64.out;omega) rfl rfl HR2.out B2.out B2.out.size (by have:=Hk64.out;omega) ?_
     case hmi=>have:=Hk64.out;first | omega | (unfold wrap64;omega) | (rw [show (128 : Int) - (k.length : Int) = ((128 - k.length : Nat) : Int) by omega];first | rfl | (unfold wrap64;omega))
     intro v5 w4 hR_ hb_;have HA5 : Aside0 (Kd.R (Kd.int .u8) 5 w4 w1.heap.size (fun _=>True) v5 (keyBlock k)):=⟨by unfold keyBlock;rw [if_neg hk0];exact hR_⟩;have HB5:=am hb_;clear hR_ hb_ d0 hk0 hk0_ HR2 B2
     go_upto_region 5 with (fail)))
 all_goals (
  obtain ⟨all,hall⟩ : ∃ a,a = keyBlock k ++ l.flatten:=⟨_,rfl⟩
  have hkbl : (keyBlock k).length ≤ 128:=by unfold keyBlock;have:=Hk64.out;split <;> simp <;> omega
  have hallB : ∀ c ∈ all,0 ≤ c ∧ c < 256:=by
   intro c hc;rw [hall] at hc
   rcases List.mem_append.1 hc with h | h
   ·exact keyBlock_bytes k HkB.out c h
   ·exact HlB.out c h
  have halll : all.length ≤ 10000128:=by rw [hall,List.length_append];have:=Hl2.out;omega
  have Hall:=am hall;have HallB:=am hallB;have Halll:=am halll;have Hkbl:=am hkbl;have HL4:=am (Kd.C_below HL1.out HB5.out);clear hall hallB halll hkbl
  go_wp2_with (first
   | (go_at_call 50;with_reducible refine (concat_calls B cb l _ HL4.out hlb Hl1.out Hl2.out).mono ?_;rintro e w5 ⟨v6,rfl,hR_,hb_⟩;have HR6:=am hR_;have B6:=am hb_;clear hR_ hb_)
   | ((with_reducible refine gate_builtin (b:= .append) (xs:=#[.tmp 23,.tmp 25]) rfl ?_);at_builtin;refine Aside0.out ?_))
  refine am ?_;obtain ⟨A6,c6,hv6_,hc6_,hC6_⟩:=Kd.R_reads HR6.out;subst hv6_;have HBb:=below_step HB5.out B6.out;have HA5c:=Kd.R_below HA5.out B6.out;refine Kd.R_append_row (Value.int .u8) (0 : Int) (h1:=fun _=>rfl) (w0:=w1) w1.heap.size rfl (.tmp 23) (.tmp 25) 26 5 (.int .u8 0) 1 rfl Tryd.underlying26 info_u8z rfl (by decide) _ _ l.flatten A6 l.flatten.length c6 (fun _=>True) rfl rfl (fun _ _=>trivial) HA5c hC6_ HBb HBb.size (by have:=Hl2.out;have:=Hkbl.out;omega) ?_;intro v7 w6 hR_ hb_ _ _;rw [← Hall.out] at hR_;obtain ⟨A7,c7,hv7_,hc7_,hC7_⟩:=Kd.R_reads hR_
  have h7lt : ∀ ad,A7 = some ad → 0 < all.length → ad.block < w6.heap.size:=fun ad e hn=>by subst e;exact Kd.C_lt hC7_ hn (by decide)
  subst hv7_;have HC7:=am hC7_;have H7lt:=am h7lt;have B16:=am hb_;have hcc7:=hc7_;clear hR_ hb_ hc6_ hC6_ HBb HA5c hC7_ h7lt hc7_ HR6 B6 HA5 HB5
  go_upto_region 7 with (first
   | (go_at_call 51;with_reducible refine (HBE.out _).mono ?_;rintro e w7a ⟨rfl,hb_⟩;have B7a:=am hb_;clear hb_)
   | ((with_reducible refine gate_dst (N:=28) rfl ?_);refine Kd.event_run (v:= .agg L9.toArray) (w1:=w7a) rfl (build_run1 (x:= .tmp 27) (v0:= .agg L8.toArray) rfl rfl (HBS.out _)) ?_)
   | ((with_reducible refine gate_dst (N:=29) rfl ?_);refine box_event ?hg (N:=29) ?hd (cs:=L9.toArray) (t:=89) ?hr ?_;(case hd=>rfl);(case hg=>rfl);(case hr=>first | (go_simp;done) | (go_simp;rfl));intro gS hg_ w7 hbox_ hb_;have GS:=am hg_;have BX:=am hbox_;have B7:=am hb_;clear hg_ hbox_ hb_))
  have bx:=BX.out;rw [HL9.out] at bx;have aS : Arr w7 gS (beginV ++ [0]):=⟨rangeAt_box bx,by have:=there_box bx;rwa [List.length_map] at this⟩
  have gS6 : w6.heap.size ≤ gS:=by have:=GS.out;have:=B7a.out.size;omega
  have B67:=below_step B7a.out B7.out;have HC8:=am (Kd.C_below HC7.out B67);have HF8 : Aside0 (∀ ad,A7 = some ad → 0 < all.length → ad.block ≠ gS):=⟨fun ad e hn=>by have:=H7lt.out ad e hn;omega⟩;have B17:=am (below_step B16.out B67);have AS:=am aS;have GS6:=am gS6;have hA0l : (beginV ++ [0]).length = 9:=rfl;obtain ⟨v_p,hv_p⟩ : ∃ v,v = (beginV ++ [0]).getD 0 0:=⟨_,rfl⟩;have s0:=aS.cell 0 (by decide);have s1:=aS.frozen 0 (by decide);rw [← hv_p] at s0;obtain ⟨sv,hsv⟩ : ∃ v,shl .u64 (wr (k.length : Int)) 8 = v:=⟨_,rfl⟩;have hsv1 : IntKind.u64.wrap (IntKind.u64.wrap (k.length : Int) * 2 ^ 8) = sv:=hsv;have hsv2 : IntKind.u64.wrap (IntKind.u64.wrap (k.length : Int) * 256) = sv:=hsv
  first
   | (have hsv3 : IntKind.u64.wrap (IntKind.u64.wrap 0 * 256) = sv:=by
       rw [← hsv2,HK0.out];rfl)
   | skip
  have Hv_p:=am hv_p;have Hsv:=am hsv;have B16n : Aside0 (w1.heap.size ≤ w6.heap.size):=⟨B16.out.size⟩;have LT4c:=am (there_of_below T4.out B17.out LT4.out);clear bx aS gS6 B67 hv_p hsv BX HC7 H7lt B16;refine start_ (n:=15) (S:=fun w'=>w'.cell? ⟨gS,0,none⟩ = some (.int .u64 v_p) ∧ w'.frozen? ⟨gS,0,none⟩ = false) (ds:=[14]) (bl 15 0) (by kernel_rfl) rfl rfl ⟨s0,s1⟩ (fun hHeld=>?_);refine with_tabW blake_keyed_r7.tab blake_keyed_r7.bits (fun HT_ HW_=>?_);refine p_ HT_ 0 (some 30) blake_keyed_r7.l0 ?_;refine p_ HT_ 1 (some 31) blake_keyed_r7.l1 ?_;refine p_ HT_ 2 (some 32) blake_keyed_r7.l2 ?_;refine p_ HT_ 3 (some 33) blake_keyed_r7.l3 ?_;refine tk HT_ HW_ hHeld 4 (some 34) blake_keyed_r7.l4 (hr:=by intro w' hs_;obtain ⟨s0,s1⟩:=hs_;go_simp;with_reducible rfl) (h:=?_);refine p_ HT_ 5 (some 35) blake_keyed_r7.l5 ?_;refine p_ HT_ 6 (some 36) blake_keyed_r7.l6 ?_;refine p_ HT_ 7 (some 37) blake_keyed_r7.l7 ?_;refine p_ HT_ 8 (some 38) blake_keyed_r7.l8 ?_;refine p_ HT_ 9 (some 39) blake_keyed_r7.l9 ?_;refine p_ HT_ 10 (some 40) blake_keyed_r7.l10 ?_;refine p_ HT_ 11 (some 41) blake_keyed_r7.l11 ?_;refine p_ HT_ 12 (some 42) blake_keyed_r7.l12 ?_;refine p_ HT_ 13 (some 43) blake_keyed_r7.l13 ?_;refine last_ (i:=14) (N:=none) blake_keyed_r7.l14 rfl rfl (one_of HT_.out (by kernel_rfl)) (by decide) (fun K hK=>?_);clear hHeld;refine skip_ (w1:=World.setCell w7.drew ⟨gS,0,none⟩ (.int .u64 (Go.bits .xor .u64 v_p (Go.bits .xor .u64 16842784 sv)))) (by rfl) rfl ?_ ?_
  ·go_simp
  refine hK.out _ _ ?_;clear hK K;refine done_ (done_of HT_.out (by kernel_rfl)) ?_;clear HT_ HW_;have n0_:=AS.out.drew.set 0 (by decide) (Go.bits .xor .u64 v_p (Go.bits .xor .u64 16842784 sv));have n1_:=grown_set (grown_drew (World.grownBy.refl w7 (some gS))) 0 (.int .u64 (Go.bits .xor .u64 v_p (Go.bits .xor .u64 16842784 sv)));generalize World.setCell _ _ _ = w8 at n0_ n1_ ⊢;obtain ⟨H0,hH0⟩ : ∃ H,H = keyState k.length:=⟨_,rfl⟩
  have e0 : (beginV ++ [0]).set 0 (Go.bits .xor .u64 v_p (Go.bits .xor .u64 16842784 sv)) = H0:=by rw [hH0,Hv_p.out,← Hsv.out];rfl
  rw [e0] at n0_;have A8:=am n0_;have K8:=am n1_;have HH0:=am hH0;have H0l : Aside0 (H0.length = 9):=⟨by rw [← e0,List.length_set];rfl⟩;have HC9:=am (C_grown HC8.out K8.out HF8.out)
  have gSn : w.heap.size ≤ gS:=by have:=GS6.out;have:=B17.out.size;have:=B1.out.size;have h6:=B16n.out;omega
  have T8:=am (there_of_block LT4c.out (K8.out.block g4 (Nat.lt_of_lt_of_le LT4.out B17.out.size) (by have:=GS6.out;have:=LT4.out;have h6:=B16n.out;simp;omega)));have B8:=am ((below_step B1.out B17.out).grown K8.out (below_step B1.out B17.out).size (fun j hj=>by cases hj;exact gSn));have GSn:=am gSn;have NE4 : Aside0 (g4 ≠ gS):=⟨by have:=GS6.out;have:=LT4.out;have h6:=B16n.out;omega⟩;have LT48 : Aside0 (g4 < w8.heap.size):=⟨Nat.lt_of_lt_of_le LT4.out (Nat.le_trans B17.out.size K8.out.size)⟩;have HT8 : Aside0 (Spaces w8):=⟨(HTs.out.grown (below_grown (below_step B1.out B17.out) (some gS)) (by have:=HTs.out.pos;omega)).grown K8.out (by have:=HTs.out.pos;omega)⟩;have GS0 : Aside0 (gS ≠ 0):=⟨by have:=HTs.out.pos;omega⟩;clear n0_ n1_ s0 s1 e0 hH0 gSn hsv1 hsv2
  go_wp2
  go_loopw [5] (fun v wr=>∃ (A' : Option Addr) (c' : Nat) (r : List Int),v = .slice A' r.length c' ∧ Aside0 (r.length ≤ c' ∧ Kd.C (Kd.int .u8) wr A' r.length r ∧ (∀ c ∈ r,0 ≤ c ∧ c < 256) ∧ (∀ ad,A' = some ad → 0 < r.length → ad.block ≠ gS) ∧ r.length ≤ 10000128) ∧
   Aside0 (∃ H,H.length = 9 ∧ Arr wr gS H ∧ blocksF r.length r H = blocksF all.length all H0) ∧ Aside0 (w8.grownBy wr (some gS)))
   (fun v _=>sliceLen v)
  case atStart=>exact ⟨A7,c7,all,rfl,⟨hcc7,HC9.out,HallB.out,HF8.out,Halll.out⟩,⟨H0,H0l.out,A8.out,rfl⟩,⟨World.grownBy.refl _ _⟩⟩
  case round=>
   obtain ⟨A',c',r,rfl,HR,HV,HG⟩:=hrel;obtain ⟨hrc,hrC,hrB,hrF,hrl⟩:=HR.out;obtain ⟨H,hHl,hHA,hHe⟩:=HV.out
   by_cases hlt : 128 < r.length
   ·have d0 : decide ((r.length : Int) > 128) = true:=decide_eq_true (by omega);obtain ⟨i8,hi8,hsz8⟩:=info_u8s;have hcut1 : ∀ W : World,(Instr.slice 26 (.slice A' r.length c') none (some (.int .i64 128)) none).run Tryd.prog W = .ok (.slice A' 128 c') W:=cut_to 26 5 .i64 Tryd.underlying26 hi8 A' r.length c' 128 (by decide) (by omega) hrc;obtain ⟨A2,hA2⟩ : ∃ A2,A2 = if c' = 128 then A' else A'.map (·.add 128):=⟨_,rfl⟩;obtain ⟨r2,hr2⟩ : ∃ r2,r2 = r.drop 128:=⟨_,rfl⟩
    have hr2l : r2.length = r.length - 128:=by rw [hr2,List.length_drop]
    have hcut2 : ∀ W : World,(Instr.slice 26 (.slice A' r.length c') (some (.int .i64 128)) none none).run Tryd.prog W = .ok (.slice A2 r2.length (c' - 128)) W:=by
     have:=cut_from (P:=Tryd.prog) 26 5 .i64 Tryd.underlying26 hi8 1 hsz8 A' r.length c' 128 (by decide) (by omega);rw [hr2l,hA2];exact this
    have htk : (r.take 128).length = 128:=by rw [List.length_take];omega
    have hbk:=blake_block.calls gS H A' c' (r.take 128) false wr hHl hHA (Kd.C_take hrC (by omega)) (by omega) (fun c hc=>hrB c (List.mem_of_mem_take hc)) (fun ad e hn=>hrF ad e (by omega)) (HT8.out.grown HG.out GS0.out) GS0.out;rw [htk] at hbk;have HBK:=am hbk;have hC2:=Kd.C_drop (k:=Kd.int .u8) (m:=128) hrC (by omega) hrc;have HC2 : Aside0 (Kd.C (Kd.int .u8) wr A2 r2.length r2):=⟨by rw [hr2,hA2];exact hC2⟩
    have HF2 : Aside0 (∀ ad,A2 = some ad → 0 < r2.length → ad.block ≠ gS):=⟨fun ad e hn=>by
     rw [hA2] at e
     split at e
     ·exact hrF ad e (by omega)
     ·cases hA' : A' with
      | none=>rw [hA'] at e;cases e
      | some a0=>
        rw [hA'] at e;simp only [Option.map_some,Option.some.injEq] at e;have:=hrF a0 hA' (by omega);rw [← e,add_block]
        exact this⟩
    have Hlen : Aside0 (r2.length ≤ c' - 128 ∧ (∀ c ∈ r2,0 ≤ c ∧ c < 256) ∧ r2.length ≤ 10000128 ∧ r2.length < r.length):=⟨by omega,fun c hc=>hrB c (by rw [hr2] at hc;exact List.mem_of_mem_drop hc),by omega,by omega⟩;have HE2 : Aside0 (blocksF r2.length r2 (blockL H (r.take 128) false) = blocksF all.length all H0):=⟨by rw [hr2,← blocks_step r H hlt];exact hHe⟩;have HHl2 : Aside0 ((blockL H (r.take 128) false).length = 9):=⟨(blockL_length _ _ _).trans hHl⟩;clear hbk hC2 hr2l hr2 hA2 htk hrC hrB hrF hHl hHA hHe HR HV hi8 hsz8 hrl hrc
    go_wp2_with (go_at_call 52;with_reducible refine HBK.out.mono ?_;rintro e w9 ⟨rfl,ha_,hg_⟩;have HA9:=am ha_;have HG9:=am hg_;clear ha_ hg_)
    exact ⟨⟨A2,c' - 128,r2,rfl,⟨Hlen.out.1,C_grown HC2.out HG9.out HF2.out,Hlen.out.2.1,HF2.out,Hlen.out.2.2.1⟩,⟨_,HHl2.out,HA9.out,HE2.out⟩,⟨grown_step HG.out HG9.out⟩⟩,Hlen.out.2.2.2⟩
   ·have d0 : decide ((r.length : Int) > 128) = false:=decide_eq_false (by omega);have HBK:=am (blake_block.calls gS H A' c' r true wr hHl hHA hrC (by omega) hrB hrF (HT8.out.grown HG.out GS0.out) GS0.out);have HE2 : Aside0 (blockL H r true = blocksF all.length all H0):=⟨by rw [← blocks_end r H hlt];exact hHe⟩;have HHl2 : Aside0 ((blockL H r true).length = 9):=⟨(blockL_length _ _ _).trans hHl⟩;obtain ⟨HF,hHF⟩ : ∃ HF,HF = blockL H r true:=⟨_,rfl⟩;rw [← hHF] at HBK HE2 HHl2;obtain ⟨wA,hwA⟩ : ∃ wA,wA = wr:=⟨_,rfl⟩;subst hwA;clear hHF hrC hrB hrF hHl hHA hHe HR HV hrl hrc
    go_upto_region 12 with (go_at_call 52;with_reducible refine HBK.out.mono ?_;rintro e w9 ⟨rfl,ha_,hg_⟩;have HA9:=am ha_;have HG9:=am (grown_step HG.out hg_);clear ha_ hg_)
    go_upto_region 13 with (first
     | ((with_reducible refine gate_dst (N:=56) rfl ?_);refine Kd.event_run (v:= .agg Z.toArray) (w1:=w9) rfl (build_run0 rfl (HBH.out _)) ?_)
     | ((with_reducible refine gate_dst (N:=7) rfl ?_);refine box_event ?hg (N:=7) ?hd (cs:=Z.toArray) (t:=31) ?hr ?_;(case hd=>rfl);(case hg=>rfl);(case hr=>first | (simp [execOp,Instr.alloc,HAL.out,newVar,newRow,go_sem];done) | (simp [execOp,Instr.alloc,HAL.out,newVar,newRow,go_sem];rfl));intro g7 hg_ w10 hbox_ hb_;have G7:=am hg_;have T7:=am (there_box hbox_);have R7:=am (rangeAt_box hbox_);have B10:=am hb_;have LT7:=am (blk_lt hbox_);clear hg_ hbox_ hb_)
     | ((with_reducible refine gate_store (t:=31) (p:=7) rfl ?_);refine wpList_store_mid rfl 31 _ _ rfl g7 0 Z.toArray rfl rfl (by rw [List.size_toArray];exact T7.out) (by rw [List.size_toArray,HZl.out];exact size_of info_a32) (all_oneCell_toArray (by rw [HZ.out];exact one_of_map _)) ?_))
    have n0_:=World.rangeAt_setCells_same w10 g7 0 Z T7.out;have n1_:=below_setCells g7 (by have:=G7.out;omega) Z 0 w10 B10.out;have n2_:=World.there_setCells T7.out g7 0 Z;generalize World.setCells _ _ _ _ = w11 at n0_ n1_ n2_ ⊢;rw [HZl.out] at n2_;have AB0 : ArrB w11 g7 (digestTo HF 0):=⟨by rw [digestTo_zero,← HZ.out];exact n0_,by rw [digestTo_length];exact n2_⟩;have HAB0:=am AB0;have A11:=am (HA9.out.below n1_ (HA9.out.lt (by rw [HHl2.out];decide)));have lt49 : g4 < w9.heap.size:=Nat.lt_of_lt_of_le LT48.out HG9.out.size;have t9:=there_of_block T8.out (HG9.out.block g4 LT48.out (by have:=NE4.out;simpa using this));have T11:=am (there_of_below t9 n1_ lt49)
    have ne74 : g7 ≠ g4:=by have:=G7.out;omega
    have ne7S : g7 ≠ gS:=by have:=G7.out;have:=HA9.out.lt (by rw [HHl2.out];decide);omega
    have NE74:=am ne74;have NE7S:=am ne7S;have LT411 : Aside0 (g4 < w11.heap.size):=⟨Nat.lt_of_lt_of_le lt49 n1_.size⟩;have B11:=am (below_step (B8.out.grown HG9.out B8.out.size (fun j hj=>by cases hj;exact GSn.out)) n1_);have G7n : Aside0 (w.heap.size ≤ g7):=⟨by have:=G7.out;have:=B8.out.size;have:=HG9.out.size;omega⟩;clear n0_ n1_ n2_ AB0 lt49 t9 ne74 ne7S
    go_wp2
    go_loopw [57] (fun i wr=>∃ x : Int,i = .int .i64 x ∧ (0 ≤ x ∧ x ≤ 32) ∧ Aside0 (ArrB wr g7 (digestTo HF x.toNat)) ∧ Aside0 (w11.grownBy wr (some g7)))
     (fun i _=>32 - (intOf i).toNat)
    case atStart=>exact ⟨0,rfl,⟨by omega,by omega⟩,HAB0,⟨World.grownBy.refl _ _⟩⟩
    case round=>
    obtain ⟨x,rfl,⟨hx0,hx1⟩,HV,HG2⟩:=hrel
    by_cases hx : x < 32
    ·have d1 : decide (x < 32) = true:=decide_eq_true hx
     have xw : wrap64 (x + 1) = x + 1:=by unfold wrap64;omega
     obtain ⟨y,hy⟩ : ∃ y,x.tdiv 8 = y:=⟨_,rfl⟩;obtain ⟨z,hz⟩ : ∃ z,x.tmod 8 = z:=⟨_,rfl⟩
     have hy' : y = x / 8:=by rw [← hy,Int.tdiv_eq_ediv_of_nonneg hx0]
     have hz' : z = x % 8:=by rw [← hz,Int.tmod_eq_emod_of_nonneg hx0]
     obtain ⟨n8,hn8⟩ : ∃ n,8 * z = n:=⟨_,rfl⟩
     have y0 : 0 ≤ y:=by omega
     have y1 : y < 8:=by omega
     have yw : wrap64 y = y:=by unfold wrap64;omega
     have zw : wrap64 z = z:=by unfold wrap64;omega
     have nw : wrap64 n8 = n8:=by unfold wrap64;omega
     have n8a : 0 ≤ n8:=by omega
     have n8b : n8 ≤ 64:=by omega
     have yk : y.toNat = x.toNat / 8:=by omega
     have nk : n8 = 8 * ((x.toNat % 8 : Nat) : Int):=by omega
     obtain ⟨v_q,hv_q⟩ : ∃ v,v = HF.getD y.toNat 0:=⟨_,rfl⟩;obtain ⟨sv2,hsv2⟩ : ∃ v,shr .u64 v_q n8 = v:=⟨_,rfl⟩;have hsv3 : v_q / 2 ^ min n8.toNat 64 = sv2:=hsv2;have hsv4 : v_q / 2 ^ n8.toNat = sv2:=shr_small hsv2 n8b;have aS2:=A11.out.grown (by rw [HHl2.out];decide) HG2.out (by have:=NE7S.out;simpa using this.symm);have s0:=aS2.cell y.toNat (by rw [HHl2.out];omega);rw [← hv_q] at s0;have s1:=HV.out.cell x.toNat (by rw [digestTo_length];omega);have s2:=HV.out.frozen x.toNat (by rw [digestTo_length];omega);obtain ⟨bo,hbo⟩ : ∃ b,b = IntKind.u8.wrap sv2:=⟨_,rfl⟩
     have hb2 : bo = outB HF x.toNat:=by rw [hbo,← hsv2,hv_q,yk,nk];rfl
     have n0_:=HV.out.set x.toNat (by rw [digestTo_length];omega) bo;rw [hb2,digestTo_set _ _ (by omega),← hb2] at n0_;have n1_:=grown_set HG2.out x.toNat (.int .u8 bo);have N0:=am n0_;have N1:=am n1_;have hbo':=hbo.symm;clear hv_q hsv2 aS2 HV hbo hb2 n0_ n1_ yk nk hy' hz'
     go_wp2
     exact ⟨⟨x + 1,rfl,⟨by omega,by omega⟩,by rw [show (x + 1).toNat = x.toNat + 1 by omega];exact N0,N1⟩,by simp [intOf];omega⟩
    ·have d1 : decide (x < 32) = false:=decide_eq_false hx
     have hx9 : x = 32:=by omega
     subst hx9;have hv:=HV.out;rw [show (32 : Int).toNat = 32 from rfl,digestTo_all] at hv;obtain ⟨L,hL⟩ : ∃ L,L = (digestL HF).map (Value.int .u8):=⟨_,rfl⟩
     have hLl : L.length = 32:=by rw [hL];simp [digestL]
     have hLo : ∀ v ∈ L,v.oneCell' = true:=by rw [hL];exact one_of_map _
     have hR:=hv.range;rw [← hL] at hR;have HR2:=am hR;have HLl:=am hLl;have HLo:=am hLo;have HLe:=am hL;have t4:=there_of_block T11.out (HG2.out.block g4 LT411.out (by have:=NE74.out;simpa using this.symm));have T12:=am t4;have B12:=am (B11.out.grown HG2.out B11.out.size (fun j hj=>by cases hj;exact G7n.out));clear hR hLl hLo hL hv HV hx hx0 hx1 t4
     go_wp2_with (first
      | ((with_reducible refine gate_dst (N:=75) rfl ?_);refine wpList_load_mid rfl 31 _ rfl g7 0 rfl L _ HR2.out Tryd.underlying31 rfl (by rw [HLl.out];exact size_of info_a32) ?_)
      | ((with_reducible refine gate_store (t:=31) (p:=4) rfl ?_);refine wpList_store_mid rfl 31 _ _ rfl g4 0 L.toArray rfl rfl (by rw [List.size_toArray,HLl.out,← HZl.out];exact T12.out) (by rw [List.size_toArray,HLl.out];exact size_of info_a32) (all_oneCell_toArray HLo.out) ?_))
     have BR:=World.rangeAt_setCells_same wr g4 0 L (by rw [HLl.out,← HZl.out];exact T12.out);have hres:=run_loadVar_mid (P:=Tryd.prog) (wr.setCells g4 0 L) g4 0 31 L _ BR Tryd.underlying31 rfl (by rw [HLl.out];exact size_of info_a32);refine bodyPost_ret (v:= .agg L.toArray) (results_cell rfl _ rfl hres) rfl ?_;refine ⟨?_,below_setCells g4 (by have:=G4.out;omega) L 0 wr B12.out⟩
     rw [HLe.out,HKE.out,← Hall.out,← HH0.out,← HE2.out])
end Go.Proofs.YtilckocpgififaaDoor.G
/- blake.Sum. -/
namespace Go.Proofs.YtilckocpgififaaDoor.G
open Go.RowKit Go.Proofs.YtilckocpgififaaDoorW.PrintWords Go.Proofs.YtilckocpgififaaDoorW.PrintLast Go.Proofs.YtilckocpgififaaDoorW.PrintMore
set_option linter.unusedVariables false
set_option linter.unusedSimpArgs false
theorem Spaces.below {w w' : World} (h : Spaces w) (hb : Below w.heap.size w w') : Spaces w':=h.grown (below_grown hb (some 1)) (by decide)
theorem keyedL_bytes (key p : List Int) : ∀ c ∈ keyedL key p,0 ≤ c ∧ c < 256:=by
 intro c hc
 unfold keyedL digestL at hc
 obtain ⟨i,_,rfl⟩:=List.mem_map.1 hc
 unfold outB
 generalize shr _ _ _ = v
 have e : IntKind.u8.wrap v = v % 256:=by simp [IntKind.wrap,IntKind.signed,IntKind.bits]
 rw [e]
 omega
theorem C_one {w : World} {A : Option Addr} {b : List Int} {c g t : Nat} (hC : Kd.C (Kd.int .u8) w A b.length b) (hc : b.length ≤ c) (hg : w.heap[g]? = some (.cells #[.slice A b.length c] t (0,0))) : Kd.C (Kd.slice 5 (Kd.int .u8)) w (some ⟨g,0,none⟩) [b].length [b]:=
 ⟨rfl,by simp,fun _=>⟨⟨g,0,none⟩,rfl,fun j p hj=>by
  match j,hj with
  | 0,hj=>
    obtain rfl : b = p:=by simpa using hj
    refine ⟨[.slice A b.length c],rfl,⟨A,c,rfl,hc,hC⟩,fun i u hu=>?_⟩
    match i,hu with
    | 0,hu=>
      obtain rfl : Value.slice A b.length c = u:=by simpa using hu
      have:=blk_cell hg 0
      simpa [Addr.add] using this
    | i + 1,hu=>simp at hu
  | j + 1,hj=>simp at hj⟩⟩
theorem bytes_one {b : List Int} (h : ∀ c ∈ b,0 ≤ c ∧ c < 256) : ∀ c ∈ [b].flatten,0 ≤ c ∧ c < 256:=by simpa using h
set_option maxRecDepth 100000 in
set_option maxHeartbeats 4000000 in
theorem blake_Sum.calls (B : Option Addr) (cb : Nat) (l : List (List Int)) (w : World) (hL : Kd.C (Kd.slice 5 (Kd.int .u8)) w B l.length l) (hlb : l.length ≤ cb)
 (hl1 : l.length ≤ 10000000) (hl2 : l.flatten.length ≤ 10000000) (hlB : ∀ c ∈ l.flatten,0 ≤ c ∧ c < 256) (hT : Spaces w) :
 Calls Tryd.prog 19 #[.slice B l.length cb] w fun e w'=>e = .returned (.agg ((keyedL [] l.flatten).map (Value.int .u8)).toArray) ∧ Below w.heap.size w w':=by
 obtain ⟨Z,hZ⟩ : ∃ Z,Z = zero32.map (Value.int .u8):=⟨_,rfl⟩
 have hZl : Z.length = 32:=by rw [hZ];rfl
 have hal : ∀ w,(zeroValue 31).run Tryd.prog w = .ok (.agg Z.toArray) w:=fun w=>by rw [hZ];exact zero_run info_a32 w
 obtain ⟨X,hX⟩ : ∃ X,X = (keyedL [] l.flatten).map (Value.int .u8):=⟨_,rfl⟩
 have hXl : X.length = 32:=by rw [hX,List.length_map,keyedL_length]
 have hXo : ∀ v ∈ X,v.oneCell' = true:=by rw [hX];exact one_of_map _
 have HK : Aside0 (∀ w1,Below w.heap.size w w1 → Calls Tryd.prog 30 #[.slice none 0 0,.slice B l.length cb] w1 fun e w'=>e = .returned (.agg X.toArray) ∧ Below w1.heap.size w1 w'):=⟨fun w1 hb=>by
  rw [hX]
  exact blake_Keyed.calls none B 0 cb [] l w1 (Kd.C_nil _ _) (Nat.le_refl _) (Kd.C_below hL hb) hlb (by decide) hl1 hl2 (fun c hc=>by cases hc) hlB (hT.below hb)⟩
 rw [← hX];have HZl:=am hZl;have HXl:=am hXl;have HXo:=am hXo;clear hX hZ hZl hXl hXo hL hlB;go_enter Tryd.func19,Tryd.ntmps19
 go_upto_region 1 with ((with_reducible refine gate_dst (N:=2) rfl ?_);refine box_event ?hg (N:=2) ?hd (cs:=Z.toArray) (t:=31) ?hr ?_;(case hd=>rfl);(case hg=>rfl);(case hr=>first | (simp [execOp,Instr.alloc,hal,newVar,newRow,go_sem];done) | (simp [execOp,Instr.alloc,hal,newVar,newRow,go_sem];rfl));intro g2 hg_ w2 hbox_ hb_;have G2:=am hg_;have BZ2:=am (there_box hbox_);have HB2:=am hb_;have LT2:=am (blk_lt hbox_);clear hg_ hbox_ hb_)
 go_wp2_with (first
  | (go_at_call 30;with_reducible refine (HK.out w2 HB2.out).mono ?_;rintro e w3 ⟨rfl,hb_⟩;have B3:=am hb_;have BZ3:=am (there_of_below BZ2.out hb_ LT2.out);clear hb_)
  | ((with_reducible refine gate_store (t:=31) (p:=2) rfl ?_);refine wpList_store_mid rfl 31 _ _ rfl g2 0 X.toArray rfl rfl (by rw [List.size_toArray,HXl.out,← HZl.out];exact BZ3.out) (by rw [List.size_toArray,HXl.out];exact size_of info_a32) (all_oneCell_toArray HXo.out) ?_))
 have BR:=World.rangeAt_setCells_same w3 g2 0 X (by rw [HXl.out,← HZl.out];exact BZ3.out);have hres:=run_loadVar_mid (P:=Tryd.prog) (w3.setCells g2 0 X) g2 0 31 X _ BR Tryd.underlying31 rfl (by rw [HXl.out];exact size_of info_a32);refine bodyPost_ret (v:= .agg X.toArray) (results_cell rfl _ rfl hres) rfl ?_;exact ⟨rfl,below_setCells g2 (by have:=G2.out;omega) X 0 w3 (below_step HB2.out B3.out)⟩
end Go.Proofs.YtilckocpgififaaDoor.G
