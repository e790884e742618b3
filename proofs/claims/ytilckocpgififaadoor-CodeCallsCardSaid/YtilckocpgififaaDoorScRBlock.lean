/- What the laws of this chapter share: two digests are one; how Keyed and Sum are called from a later world. -/
import Derived.Test.YtilckocpgififaaDoorScBSumC
import Derived.Stop.BytesEq
import Derived.Test.YtilckocpgififaaDoorScHStep
import Derived.Test.YtilckocpgififaaDoorScBArr
import Derived.Test.YtilckocpgififaaDoorScGx4
import Derived.Test.YtilckocpgififaaDoorScBBlock
import Derived.Deep.RegionHeld3
namespace Go.Proofs.YtilckocpgififaaDoor.G
open Go.RowKit Go.Proofs.YtilckocpgififaaDoorW.PrintWords Go.Proofs.YtilckocpgififaaDoorW.PrintLast Go.Proofs.YtilckocpgififaaDoorW.PrintMore
set_option linter.unusedVariables false
set_option linter.unusedSimpArgs false
theorem bytes_cell (L : List Int) (h : ∀ c ∈ L,0 ≤ c ∧ c < 256) : L.map (Value.int .u8) = (L.map fun c=>UInt8.ofNat c.toNat).map (fun b : UInt8=>Value.int .u8 (b.toNat : Int)):=by
 rw [List.map_map];refine List.map_congr_left fun c hc=>?_;obtain ⟨h0,h1⟩:=h c hc
 have e : (UInt8.ofNat c.toNat).toNat = c.toNat:=by
  rw [UInt8.toNat_ofNat']
  omega
 simp only [Function.comp,e];rw [Int.toNat_of_nonneg h0]
theorem eq_hash (L : List Int) (h : ∀ c ∈ L,0 ≤ c ∧ c < 256) (hl : L.length = 32) (W : World) :
 (binOp .eql 31 (.agg (L.map (Value.int .u8)).toArray) (.agg (L.map (Value.int .u8)).toArray)).run Tryd.prog W = .ok (.bool true) W:=by
 have:=run_eql_bytes (P:=Tryd.prog) W 31 5 32 Tryd.underlying31 Tryd.underlying5 Tryd.sizeOf5 (L.map fun c=>UInt8.ofNat c.toNat) (L.map fun c=>UInt8.ofNat c.toNat) (by rw [List.length_map,hl]) (by rw [List.length_map,hl]);rw [beq_self_eq_true] at this;have e:=bytes_cell L h;rw [e];exact this
theorem sum_one (B : Option Addr) (cb : Nat) (p : List Int) (W : World) (hP : Kd.C (Kd.int .u8) W B p.length p) (hpb : p.length ≤ cb)
 (hp1 : p.length ≤ 10000000) (hpB : ∀ c ∈ p,0 ≤ c ∧ c < 256) (hT : Spaces W) (w : World) (g : Nat) (hb : Below W.heap.size W w) (hg : w.heap[g]? = some (.cells #[.slice B p.length cb] 26 (0,0))) :
 Calls Tryd.prog 19 #[.slice (some ⟨g,0,none⟩) 1 1] w fun e w'=>e = .returned (.agg ((keyedL [] p).map (Value.int .u8)).toArray) ∧ Below w.heap.size w w':=by
 have:=blake_Sum.calls (some ⟨g,0,none⟩) 1 [p] w (C_one (Kd.C_below hP hb) hpb hg) (Nat.le_refl _) (by simp) (by simpa using hp1) (bytes_one hpB) (hT.below hb)
 simpa using this
end Go.Proofs.YtilckocpgififaaDoor.G
/- the reference's mix: four words of an array are mixed with two (laid by mkblake.py) -/
namespace Go.Proofs.YtilckocpgififaaDoor.G
open Go.RowKit Go.Proofs.YtilckocpgififaaDoorW.PrintWords Go.Proofs.YtilckocpgififaaDoorW.PrintLast Go.Proofs.YtilckocpgififaaDoorW.PrintMore
set_option linter.unusedVariables false
set_option linter.unusedSimpArgs false
theorem rotR_some32 (x : Int) : althingref2_turned.f x 32 = some (rotR 32 x):=by
 have e : IntKind.u64.wrap (64 - 32) = 64 - 32:=by decide +kernel
 unfold althingref2_turned.f rotR
 rw [e,if_pos (by decide),if_pos (by decide)]
theorem rotR_some24 (x : Int) : althingref2_turned.f x 24 = some (rotR 24 x):=by
 have e : IntKind.u64.wrap (64 - 24) = 64 - 24:=by decide +kernel
 unfold althingref2_turned.f rotR
 rw [e,if_pos (by decide),if_pos (by decide)]
theorem rotR_some16 (x : Int) : althingref2_turned.f x 16 = some (rotR 16 x):=by
 have e : IntKind.u64.wrap (64 - 16) = 64 - 16:=by decide +kernel
 unfold althingref2_turned.f rotR
 rw [e,if_pos (by decide),if_pos (by decide)]
theorem rotR_some63 (x : Int) : althingref2_turned.f x 63 = some (rotR 63 x):=by
 have e : IntKind.u64.wrap (64 - 63) = 64 - 63:=by decide +kernel
 unfold althingref2_turned.f rotR
 rw [e,if_pos (by decide),if_pos (by decide)]
def ref_mix.step (k : Nat) (V : List Int) (a b c d : Nat) (x y : Int) : List Int:=match k with
 | 0=>V.set a (wr (wr (V.getD a 0 + V.getD b 0) + x))
 | 1=>V.set d (rotR 32 (Go.bits .xor .u64 (V.getD d 0) (V.getD a 0)))
 | 2=>V.set c (wr (V.getD c 0 + V.getD d 0))
 | 3=>V.set b (rotR 24 (Go.bits .xor .u64 (V.getD b 0) (V.getD c 0)))
 | 4=>V.set a (wr (wr (V.getD a 0 + V.getD b 0) + y))
 | 5=>V.set d (rotR 16 (Go.bits .xor .u64 (V.getD d 0) (V.getD a 0)))
 | 6=>V.set c (wr (V.getD c 0 + V.getD d 0))
 | 7=>V.set b (rotR 63 (Go.bits .xor .u64 (V.getD b 0) (V.getD c 0)))
 | _=>V
def ref_mix.f (V : List Int) (a b c d : Nat) (x y : Int) : List Int:=[0,1,2,3,4,5,6,7].foldl (fun V k=>ref_mix.step k V a b c d x y) V
theorem ref_mix.step_length (k : Nat) (V : List Int) (a b c d : Nat) (x y : Int) : (ref_mix.step k V a b c d x y).length = V.length:=by
 unfold ref_mix.step;split <;> simp
def ref_mix_r0.T : Bool × List (List Nat × List Nat):=(true,[([],[]),([],[]),([],[]),([],[]),([2],[2]),([4,3],[3,4]),([5],[5]),([],[]),([],[]),([7],[7]),([9,8],[8,9]),([10],[10]),([6,11],[6,11]),([],[]),([12,13],[12,13]),([0],[0]),([15,1,0,1,2,3,4,5,6,7,8,9,10,11,12,13,14],[1,15]),([16,14,0,1,2,3,4,5,6,7,8,9,10,11,12,13,14],[14,16])])
def ref_mix_r0.B : List Nat:=[0,0,0,0,4,28,60,0,0,128,896,1920,4092,0,16380,1,65535,131071]
theorem ref_mix_r0.tab : rtab .any (opsOf Tryd.f54 0) = ref_mix_r0.T:=by kernel_rfl
theorem ref_mix_r0.bits : waitsOk ref_mix_r0.T.2 ref_mix_r0.B = true:=by kernel_rfl
def ref_mix_r1.T : Bool × List (List Nat × List Nat):=(true,[([],[]),([],[]),([],[]),([],[]),([2],[2]),([4,3],[3,4]),([5],[5]),([],[]),([],[]),([7],[7]),([9,8],[8,9]),([10],[10]),([6,11],[6,11]),([12],[12]),([0],[0]),([14,1,0,1,2,3,4,5,6,7,8,9,10,11,12,13],[1,14]),([15,13,13,0,1,2,3,4,5,6,7,8,9,10,11,12,13],[13,15])])
def ref_mix_r1.B : List Nat:=[0,0,0,0,4,28,60,0,0,128,896,1920,4092,8188,1,32767,65535]
theorem ref_mix_r1.tab : rtab .any (opsOf Tryd.f54 1) = ref_mix_r1.T:=by kernel_rfl
theorem ref_mix_r1.bits : waitsOk ref_mix_r1.T.2 ref_mix_r1.B = true:=by kernel_rfl
def ref_mix_r2.T : Bool × List (List Nat × List Nat):=(true,[([],[]),([],[]),([],[]),([],[]),([2],[2]),([4,3],[3,4]),([5],[5]),([],[]),([],[]),([7],[7]),([9,8],[8,9]),([10],[10]),([6,11],[6,11]),([0],[0]),([13,1,0,1,2,3,4,5,6,7,8,9,10,11,12],[1,13]),([14,12,0,1,2,3,4,5,6,7,8,9,10,11,12],[12,14])])
def ref_mix_r2.B : List Nat:=[0,0,0,0,4,28,60,0,0,128,896,1920,4092,1,16383,32767]
theorem ref_mix_r2.tab : rtab .any (opsOf Tryd.f54 2) = ref_mix_r2.T:=by kernel_rfl
theorem ref_mix_r2.bits : waitsOk ref_mix_r2.T.2 ref_mix_r2.B = true:=by kernel_rfl
def ref_mix_r3.T : Bool × List (List Nat × List Nat):=(true,[([],[]),([],[]),([],[]),([],[]),([2],[2]),([4,3],[3,4]),([5],[5]),([],[]),([],[]),([7],[7]),([9,8],[8,9]),([10],[10]),([6,11],[6,11]),([12],[12]),([0],[0]),([14,1,0,1,2,3,4,5,6,7,8,9,10,11,12,13],[1,14]),([15,13,13,0,1,2,3,4,5,6,7,8,9,10,11,12,13],[13,15])])
def ref_mix_r3.B : List Nat:=[0,0,0,0,4,28,60,0,0,128,896,1920,4092,8188,1,32767,65535]
theorem ref_mix_r3.tab : rtab .any (opsOf Tryd.f54 3) = ref_mix_r3.T:=by kernel_rfl
theorem ref_mix_r3.bits : waitsOk ref_mix_r3.T.2 ref_mix_r3.B = true:=by kernel_rfl
def ref_mix_r4.T : Bool × List (List Nat × List Nat):=(true,[([],[]),([],[]),([],[]),([],[]),([2],[2]),([4,3],[3,4]),([5],[5]),([],[]),([],[]),([7],[7]),([9,8],[8,9]),([10],[10]),([6,11],[6,11]),([],[]),([12,13],[12,13]),([0],[0]),([15,1,0,1,2,3,4,5,6,7,8,9,10,11,12,13,14],[1,15]),([16,14,0,1,2,3,4,5,6,7,8,9,10,11,12,13,14],[14,16])])
def ref_mix_r4.B : List Nat:=[0,0,0,0,4,28,60,0,0,128,896,1920,4092,0,16380,1,65535,131071]
theorem ref_mix_r4.tab : rtab .any (opsOf Tryd.f54 4) = ref_mix_r4.T:=by kernel_rfl
theorem ref_mix_r4.bits : waitsOk ref_mix_r4.T.2 ref_mix_r4.B = true:=by kernel_rfl
def ref_mix_r5.T : Bool × List (List Nat × List Nat):=(true,[([],[]),([],[]),([],[]),([],[]),([2],[2]),([4,3],[3,4]),([5],[5]),([],[]),([],[]),([7],[7]),([9,8],[8,9]),([10],[10]),([6,11],[6,11]),([12],[12]),([0],[0]),([14,1,0,1,2,3,4,5,6,7,8,9,10,11,12,13],[1,14]),([15,13,13,0,1,2,3,4,5,6,7,8,9,10,11,12,13],[13,15])])
def ref_mix_r5.B : List Nat:=[0,0,0,0,4,28,60,0,0,128,896,1920,4092,8188,1,32767,65535]
theorem ref_mix_r5.tab : rtab .any (opsOf Tryd.f54 5) = ref_mix_r5.T:=by kernel_rfl
theorem ref_mix_r5.bits : waitsOk ref_mix_r5.T.2 ref_mix_r5.B = true:=by kernel_rfl
def ref_mix_r6.T : Bool × List (List Nat × List Nat):=(true,[([],[]),([],[]),([],[]),([],[]),([2],[2]),([4,3],[3,4]),([5],[5]),([],[]),([],[]),([7],[7]),([9,8],[8,9]),([10],[10]),([6,11],[6,11]),([0],[0]),([13,1,0,1,2,3,4,5,6,7,8,9,10,11,12],[1,13]),([14,12,0,1,2,3,4,5,6,7,8,9,10,11,12],[12,14])])
def ref_mix_r6.B : List Nat:=[0,0,0,0,4,28,60,0,0,128,896,1920,4092,1,16383,32767]
theorem ref_mix_r6.tab : rtab .any (opsOf Tryd.f54 6) = ref_mix_r6.T:=by kernel_rfl
theorem ref_mix_r6.bits : waitsOk ref_mix_r6.T.2 ref_mix_r6.B = true:=by kernel_rfl
def ref_mix_r7.T : Bool × List (List Nat × List Nat):=(true,[([],[]),([],[]),([],[]),([],[]),([2],[2]),([4,3],[3,4]),([5],[5]),([],[]),([],[]),([7],[7]),([9,8],[8,9]),([10],[10]),([6,11],[6,11]),([12],[12]),([0],[0]),([14,1,0,1,2,3,4,5,6,7,8,9,10,11,12,13],[1,14]),([15,13,13,0,1,2,3,4,5,6,7,8,9,10,11,12,13],[13,15])])
def ref_mix_r7.B : List Nat:=[0,0,0,0,4,28,60,0,0,128,896,1920,4092,8188,1,32767,65535]
theorem ref_mix_r7.tab : rtab .any (opsOf Tryd.f54 7) = ref_mix_r7.T:=by kernel_rfl
theorem ref_mix_r7.bits : waitsOk ref_mix_r7.T.2 ref_mix_r7.B = true:=by kernel_rfl
def ref_mix_r0.l0 : Array Bool:=bl 18 1
def ref_mix_r0.l1 : Array Bool:=bl 18 3
def ref_mix_r0.l2 : Array Bool:=bl 18 7
def ref_mix_r0.l3 : Array Bool:=bl 18 15
def ref_mix_r0.l4 : Array Bool:=bl 18 31
def ref_mix_r0.l5 : Array Bool:=bl 18 63
def ref_mix_r0.l6 : Array Bool:=bl 18 127
def ref_mix_r0.l7 : Array Bool:=bl 18 255
def ref_mix_r0.l8 : Array Bool:=bl 18 511
def ref_mix_r0.l9 : Array Bool:=bl 18 1023
def ref_mix_r0.l10 : Array Bool:=bl 18 2047
def ref_mix_r0.l11 : Array Bool:=bl 18 4095
def ref_mix_r0.l12 : Array Bool:=bl 18 8191
def ref_mix_r0.l13 : Array Bool:=bl 18 16383
def ref_mix_r0.l14 : Array Bool:=bl 18 32767
def ref_mix_r0.l15 : Array Bool:=bl 18 65535
def ref_mix_r0.l16 : Array Bool:=bl 18 131071
def ref_mix_r0.l17 : Array Bool:=bl 18 262143
def ref_mix_r1.l0 : Array Bool:=bl 17 1
def ref_mix_r1.l1 : Array Bool:=bl 17 3
def ref_mix_r1.l2 : Array Bool:=bl 17 7
def ref_mix_r1.l3 : Array Bool:=bl 17 15
def ref_mix_r1.l4 : Array Bool:=bl 17 31
def ref_mix_r1.l5 : Array Bool:=bl 17 63
def ref_mix_r1.l6 : Array Bool:=bl 17 127
def ref_mix_r1.l7 : Array Bool:=bl 17 255
def ref_mix_r1.l8 : Array Bool:=bl 17 511
def ref_mix_r1.l9 : Array Bool:=bl 17 1023
def ref_mix_r1.l10 : Array Bool:=bl 17 2047
def ref_mix_r1.l11 : Array Bool:=bl 17 4095
def ref_mix_r1.l12 : Array Bool:=bl 17 8191
def ref_mix_r1.l13 : Array Bool:=bl 17 24575
def ref_mix_r1.l14 : Array Bool:=bl 17 32767
def ref_mix_r1.l15 : Array Bool:=bl 17 65535
def ref_mix_r1.l16 : Array Bool:=bl 17 131071
def ref_mix_r2.l0 : Array Bool:=bl 16 1
def ref_mix_r2.l1 : Array Bool:=bl 16 3
def ref_mix_r2.l2 : Array Bool:=bl 16 7
def ref_mix_r2.l3 : Array Bool:=bl 16 15
def ref_mix_r2.l4 : Array Bool:=bl 16 31
def ref_mix_r2.l5 : Array Bool:=bl 16 63
def ref_mix_r2.l6 : Array Bool:=bl 16 127
def ref_mix_r2.l7 : Array Bool:=bl 16 255
def ref_mix_r2.l8 : Array Bool:=bl 16 511
def ref_mix_r2.l9 : Array Bool:=bl 16 1023
def ref_mix_r2.l10 : Array Bool:=bl 16 2047
def ref_mix_r2.l11 : Array Bool:=bl 16 4095
def ref_mix_r2.l12 : Array Bool:=bl 16 8191
def ref_mix_r2.l13 : Array Bool:=bl 16 16383
def ref_mix_r2.l14 : Array Bool:=bl 16 32767
def ref_mix_r2.l15 : Array Bool:=bl 16 65535
def ref_mix_r3.l0 : Array Bool:=bl 17 1
def ref_mix_r3.l1 : Array Bool:=bl 17 3
def ref_mix_r3.l2 : Array Bool:=bl 17 7
def ref_mix_r3.l3 : Array Bool:=bl 17 15
def ref_mix_r3.l4 : Array Bool:=bl 17 31
def ref_mix_r3.l5 : Array Bool:=bl 17 63
def ref_mix_r3.l6 : Array Bool:=bl 17 127
def ref_mix_r3.l7 : Array Bool:=bl 17 255
def ref_mix_r3.l8 : Array Bool:=bl 17 511
def ref_mix_r3.l9 : Array Bool:=bl 17 1023
def ref_mix_r3.l10 : Array Bool:=bl 17 2047
def ref_mix_r3.l11 : Array Bool:=bl 17 4095
def ref_mix_r3.l12 : Array Bool:=bl 17 8191
def ref_mix_r3.l13 : Array Bool:=bl 17 24575
def ref_mix_r3.l14 : Array Bool:=bl 17 32767
def ref_mix_r3.l15 : Array Bool:=bl 17 65535
def ref_mix_r3.l16 : Array Bool:=bl 17 131071
def ref_mix_r4.l0 : Array Bool:=bl 18 1
def ref_mix_r4.l1 : Array Bool:=bl 18 3
def ref_mix_r4.l2 : Array Bool:=bl 18 7
def ref_mix_r4.l3 : Array Bool:=bl 18 15
def ref_mix_r4.l4 : Array Bool:=bl 18 31
def ref_mix_r4.l5 : Array Bool:=bl 18 63
def ref_mix_r4.l6 : Array Bool:=bl 18 127
def ref_mix_r4.l7 : Array Bool:=bl 18 255
def ref_mix_r4.l8 : Array Bool:=bl 18 511
def ref_mix_r4.l9 : Array Bool:=bl 18 1023
def ref_mix_r4.l10 : Array Bool:=bl 18 2047
def ref_mix_r4.l11 : Array Bool:=bl 18 4095
def ref_mix_r4.l12 : Array Bool:=bl 18 8191
def ref_mix_r4.l13 : Array Bool:=bl 18 16383
def ref_mix_r4.l14 : Array Bool:=bl 18 32767
def ref_mix_r4.l15 : Array Bool:=bl 18 65535
def ref_mix_r4.l16 : Array Bool:=bl 18 131071
def ref_mix_r4.l17 : Array Bool:=bl 18 262143
def ref_mix_r5.l0 : Array Bool:=bl 17 1
def ref_mix_r5.l1 : Array Bool:=bl 17 3
def ref_mix_r5.l2 : Array Bool:=bl 17 7
def ref_mix_r5.l3 : Array Bool:=bl 17 15
def ref_mix_r5.l4 : Array Bool:=bl 17 31
def ref_mix_r5.l5 : Array Bool:=bl 17 63
def ref_mix_r5.l6 : Array Bool:=bl 17 127
def ref_mix_r5.l7 : Array Bool:=bl 17 255
def ref_mix_r5.l8 : Array Bool:=bl 17 511
def ref_mix_r5.l9 : Array Bool:=bl 17 1023
def ref_mix_r5.l10 : Array Bool:=bl 17 2047
def ref_mix_r5.l11 : Array Bool:=bl 17 4095
def ref_mix_r5.l12 : Array Bool:=bl 17 8191
def ref_mix_r5.l13 : Array Bool:=bl 17 24575
def ref_mix_r5.l14 : Array Bool:=bl 17 32767
def ref_mix_r5.l15 : Array Bool:=bl 17 65535
def ref_mix_r5.l16 : Array Bool:=bl 17 131071
def ref_mix_r6.l0 : Array Bool:=bl 16 1
def ref_mix_r6.l1 : Array Bool:=bl 16 3
def ref_mix_r6.l2 : Array Bool:=bl 16 7
def ref_mix_r6.l3 : Array Bool:=bl 16 15
def ref_mix_r6.l4 : Array Bool:=bl 16 31
def ref_mix_r6.l5 : Array Bool:=bl 16 63
def ref_mix_r6.l6 : Array Bool:=bl 16 127
def ref_mix_r6.l7 : Array Bool:=bl 16 255
def ref_mix_r6.l8 : Array Bool:=bl 16 511
def ref_mix_r6.l9 : Array Bool:=bl 16 1023
def ref_mix_r6.l10 : Array Bool:=bl 16 2047
def ref_mix_r6.l11 : Array Bool:=bl 16 4095
def ref_mix_r6.l12 : Array Bool:=bl 16 8191
def ref_mix_r6.l13 : Array Bool:=bl 16 16383
def ref_mix_r6.l14 : Array Bool:=bl 16 32767
def ref_mix_r6.l15 : Array Bool:=bl 16 65535
def ref_mix_r7.l0 : Array Bool:=bl 17 1
def ref_mix_r7.l1 : Array Bool:=bl 17 3
def ref_mix_r7.l2 : Array Bool:=bl 17 7
def ref_mix_r7.l3 : Array Bool:=bl 17 15
def ref_mix_r7.l4 : Array Bool:=bl 17 31
def ref_mix_r7.l5 : Array Bool:=bl 17 63
def ref_mix_r7.l6 : Array Bool:=bl 17 127
def ref_mix_r7.l7 : Array Bool:=bl 17 255
def ref_mix_r7.l8 : Array Bool:=bl 17 511
def ref_mix_r7.l9 : Array Bool:=bl 17 1023
def ref_mix_r7.l10 : Array Bool:=bl 17 2047
def ref_mix_r7.l11 : Array Bool:=bl 17 4095
def ref_mix_r7.l12 : Array Bool:=bl 17 8191
def ref_mix_r7.l13 : Array Bool:=bl 17 24575
def ref_mix_r7.l14 : Array Bool:=bl 17 32767
def ref_mix_r7.l15 : Array Bool:=bl 17 65535
def ref_mix_r7.l16 : Array Bool:=bl 17 131071
set_option maxRecDepth 100000 in
set_option maxHeartbeats 16000000 in
theorem ref_mix.calls (g a b c d : Nat) (V0 : List Int) (x y : Int) (w : World) (ha : a < 16) (hb : b < 16) (hc : c < 16) (hd : d < 16) (hL0 : V0.length = 16) (hA : Arr w g V0) :
 Calls Tryd.prog 54 #[.pointer (some ⟨g,0,none⟩),.int .i64 a,.int .i64 b,.int .i64 c,.int .i64 d,.int .u64 x,.int .u64 y] w fun e w'=>e = .returned (.tuple #[]) ∧ Arr w' g (ref_mix.f V0 a b c d x y) ∧ w.grownBy w' (some g):=by
 have HA:=am hA;have HG:=am (World.grownBy.refl w (some g));clear hA
 have ba : (a : Int) < 16:=by omega
 have bb : (b : Int) < 16:=by omega
 have bc : (c : Int) < 16:=by omega
 have bd : (d : Int) < 16:=by omega
 go_enter Tryd.func54,Tryd.ntmps54;have hA0:=HA.out;have s0:=hA0.cell a (by omega);have s1:=hA0.cell b (by omega);have s2:=hA0.frozen a (by omega);clear hA0;obtain ⟨v_p0,hv_p⟩ : ∃ v,v = V0.getD a 0:=⟨_,rfl⟩;obtain ⟨v_q0,hv_q⟩ : ∃ v,v = V0.getD b 0:=⟨_,rfl⟩;rw [← hv_p] at s0;rw [← hv_q] at s1;have Hv_p:=am hv_p;have Hv_q:=am hv_q;clear hv_p hv_q
 go_upto_region 0 with (fail)
 refine start_ (n:=18) (S:=fun w'=>w'.cell? ⟨g,a,none⟩ = some (.int .u64 (v_p0)) ∧ w'.cell? ⟨g,b,none⟩ = some (.int .u64 (v_q0)) ∧ w'.frozen? ⟨g,a,none⟩ = false) (ds:=[17]) (bl 18 0) (by kernel_rfl) rfl rfl ⟨s0,s1,s2⟩ (fun hHeld=>?_);refine with_tabW ref_mix_r0.tab ref_mix_r0.bits (fun HT_ HW_=>?_);refine p_ HT_ 0 (some 14) ref_mix_r0.l0 ?_;refine p_ HT_ 1 (some 15) ref_mix_r0.l1 ?_;refine p_ HT_ 2 (some 16) ref_mix_r0.l2 ?_;refine p_ HT_ 3 (some 17) ref_mix_r0.l3 ?_;refine p_ HT_ 4 (some 18) ref_mix_r0.l4 ?_;refine p_ HT_ 5 (some 19) ref_mix_r0.l5 ?_;refine tk HT_ HW_ hHeld 6 (some 20) ref_mix_r0.l6 (hr:=by intro w' hs_;obtain ⟨s0,s1,s2⟩:=hs_;go_simp;with_reducible rfl) (h:=?_);refine p_ HT_ 7 (some 21) ref_mix_r0.l7 ?_;refine p_ HT_ 8 (some 22) ref_mix_r0.l8 ?_;refine p_ HT_ 9 (some 23) ref_mix_r0.l9 ?_;refine p_ HT_ 10 (some 24) ref_mix_r0.l10 ?_;refine tk HT_ HW_ hHeld 11 (some 25) ref_mix_r0.l11 (hr:=by intro w' hs_;obtain ⟨s0,s1,s2⟩:=hs_;go_simp;with_reducible rfl) (h:=?_);refine p_ HT_ 12 (some 26) ref_mix_r0.l12 ?_;refine p_ HT_ 13 (some 27) ref_mix_r0.l13 ?_;refine p_ HT_ 14 (some 28) ref_mix_r0.l14 ?_;refine p_ HT_ 15 (some 29) ref_mix_r0.l15 ?_;refine p_ HT_ 16 (some 30) ref_mix_r0.l16 ?_;refine last_ (i:=17) (N:=none) ref_mix_r0.l17 rfl rfl (one_of HT_.out (by kernel_rfl)) (by decide) (fun K hK=>?_);clear hHeld;refine skip_ (w1:=World.setCell w.drew ⟨g,a,none⟩ (.int .u64 (wr (wr (v_p0 + v_q0) + x)))) (by rfl) rfl ?_ ?_
 ·go_simp
 refine hK.out _ _ ?_;clear hK K;refine done_ (done_of HT_.out (by kernel_rfl)) ?_;clear s0 s1 s2;clear HT_ HW_;obtain ⟨V1,hV1⟩ : ∃ V',V' = ref_mix.step 0 V0 a b c d x y:=⟨_,rfl⟩
 have hL1 : V1.length = 16:=by rw [hV1,ref_mix.step_length];exact hL0
 have n0_:=HA.out.drew.set a (by omega) (wr (wr (v_p0 + v_q0) + x));rw [show V0.set a (wr (wr (v_p0 + v_q0) + x)) = V1 by rw [hV1,Hv_p.out,Hv_q.out];rfl] at n0_;have n1_:=grown_set (grown_drew HG.out) a (.int .u64 (wr (wr (v_p0 + v_q0) + x)));generalize World.setCell _ _ _ = w1 at n0_ n1_ ⊢;clear HA HG;have HA:=am n0_;have HG:=am n1_;clear n0_ n1_ Hv_p Hv_q;have hA1:=HA.out;have s0:=hA1.cell d (by omega);have s1:=hA1.cell a (by omega);have s2:=hA1.frozen d (by omega);clear hA1;obtain ⟨v_p1,hv_p⟩ : ∃ v,v = V1.getD d 0:=⟨_,rfl⟩;obtain ⟨v_q1,hv_q⟩ : ∃ v,v = V1.getD a 0:=⟨_,rfl⟩;rw [← hv_p] at s0;rw [← hv_q] at s1;have Hv_p:=am hv_p;have Hv_q:=am hv_q;clear hv_p hv_q
 go_upto_region 1 with (fail)
 refine start_ (n:=17) (S:=fun w'=>w'.cell? ⟨g,d,none⟩ = some (.int .u64 (v_p1)) ∧ w'.cell? ⟨g,a,none⟩ = some (.int .u64 (v_q1)) ∧ w'.frozen? ⟨g,d,none⟩ = false) (ds:=[16]) (bl 17 0) (by kernel_rfl) rfl rfl ⟨s0,s1,s2⟩ (fun hHeld=>?_);refine with_tabW ref_mix_r1.tab ref_mix_r1.bits (fun HT_ HW_=>?_);refine p_ HT_ 0 (some 31) ref_mix_r1.l0 ?_;refine p_ HT_ 1 (some 32) ref_mix_r1.l1 ?_;refine p_ HT_ 2 (some 33) ref_mix_r1.l2 ?_;refine p_ HT_ 3 (some 34) ref_mix_r1.l3 ?_;refine p_ HT_ 4 (some 35) ref_mix_r1.l4 ?_;refine p_ HT_ 5 (some 36) ref_mix_r1.l5 ?_;refine tk HT_ HW_ hHeld 6 (some 37) ref_mix_r1.l6 (hr:=by intro w' hs_;obtain ⟨s0,s1,s2⟩:=hs_;go_simp;with_reducible rfl) (h:=?_);refine p_ HT_ 7 (some 38) ref_mix_r1.l7 ?_;refine p_ HT_ 8 (some 39) ref_mix_r1.l8 ?_;refine p_ HT_ 9 (some 40) ref_mix_r1.l9 ?_;refine p_ HT_ 10 (some 41) ref_mix_r1.l10 ?_;refine tk HT_ HW_ hHeld 11 (some 42) ref_mix_r1.l11 (hr:=by intro w' hs_;obtain ⟨s0,s1,s2⟩:=hs_;go_simp;with_reducible rfl) (h:=?_);refine p_ HT_ 12 (some 43) ref_mix_r1.l12 ?_;refine p_ HT_ 14 (some 45) ref_mix_r1.l13 ?_;refine o_ HT_ 13 (some 44) ref_mix_r1.l14 fun K hK=>?_;refine gs Tryd.func71 #[.int .u64 (Go.bits .xor .u64 v_p1 v_q1),.int .u64 32] ?_;refine (althingref2_turned.calls _ _ _ _ (rotR_some32 _)).mono ?_;rintro e w9 ⟨rfl,⟨m_,rfl⟩⟩;refine ⟨_,rfl,?_⟩;refine hK.out _ _ hHeld (fun hHeld=>?_);clear hK K;refine nm (some 44) ?_;refine p_ HT_ 15 (some 46) ref_mix_r1.l15 ?_;refine last_ (i:=16) (N:=none) ref_mix_r1.l16 rfl rfl (one_of HT_.out (by kernel_rfl)) (by decide) (fun K hK=>?_);clear hHeld;refine skip_ (w1:=World.setCell (w1.drew.drewN m_) ⟨g,d,none⟩ (.int .u64 (rotR 32 (Go.bits .xor .u64 v_p1 v_q1)))) (by rfl) rfl ?_ ?_
 ·go_simp
 refine hK.out _ _ ?_;clear hK K;refine done_ (done_of HT_.out (by kernel_rfl)) ?_;clear s0 s1 s2;clear HT_ HW_;obtain ⟨V2,hV2⟩ : ∃ V',V' = ref_mix.step 1 V1 a b c d x y:=⟨_,rfl⟩
 have hL2 : V2.length = 16:=by rw [hV2,ref_mix.step_length];exact hL1
 have n0_:=(HA.out.drew.drewN m_).set d (by omega) (rotR 32 (Go.bits .xor .u64 v_p1 v_q1));rw [show V1.set d (rotR 32 (Go.bits .xor .u64 v_p1 v_q1)) = V2 by rw [hV2,Hv_p.out,Hv_q.out];rfl] at n0_;have n1_:=grown_set (grown_drewN (grown_drew HG.out) m_) d (.int .u64 (rotR 32 (Go.bits .xor .u64 v_p1 v_q1)));generalize World.setCell _ _ _ = w2 at n0_ n1_ ⊢;clear HA HG;have HA:=am n0_;have HG:=am n1_;clear n0_ n1_ Hv_p Hv_q;have hA2:=HA.out;have s0:=hA2.cell c (by omega);have s1:=hA2.cell d (by omega);have s2:=hA2.frozen c (by omega);clear hA2;obtain ⟨v_p2,hv_p⟩ : ∃ v,v = V2.getD c 0:=⟨_,rfl⟩;obtain ⟨v_q2,hv_q⟩ : ∃ v,v = V2.getD d 0:=⟨_,rfl⟩;rw [← hv_p] at s0;rw [← hv_q] at s1;have Hv_p:=am hv_p;have Hv_q:=am hv_q;clear hv_p hv_q
 go_upto_region 2 with (fail)
 refine start_ (n:=16) (S:=fun w'=>w'.cell? ⟨g,c,none⟩ = some (.int .u64 (v_p2)) ∧ w'.cell? ⟨g,d,none⟩ = some (.int .u64 (v_q2)) ∧ w'.frozen? ⟨g,c,none⟩ = false) (ds:=[15]) (bl 16 0) (by kernel_rfl) rfl rfl ⟨s0,s1,s2⟩ (fun hHeld=>?_);refine with_tabW ref_mix_r2.tab ref_mix_r2.bits (fun HT_ HW_=>?_);refine p_ HT_ 0 (some 47) ref_mix_r2.l0 ?_;refine p_ HT_ 1 (some 48) ref_mix_r2.l1 ?_;refine p_ HT_ 2 (some 49) ref_mix_r2.l2 ?_;refine p_ HT_ 3 (some 50) ref_mix_r2.l3 ?_;refine p_ HT_ 4 (some 51) ref_mix_r2.l4 ?_;refine p_ HT_ 5 (some 52) ref_mix_r2.l5 ?_;refine tk HT_ HW_ hHeld 6 (some 53) ref_mix_r2.l6 (hr:=by intro w' hs_;obtain ⟨s0,s1,s2⟩:=hs_;go_simp;with_reducible rfl) (h:=?_);refine p_ HT_ 7 (some 54) ref_mix_r2.l7 ?_;refine p_ HT_ 8 (some 55) ref_mix_r2.l8 ?_;refine p_ HT_ 9 (some 56) ref_mix_r2.l9 ?_;refine p_ HT_ 10 (some 57) ref_mix_r2.l10 ?_;refine tk HT_ HW_ hHeld 11 (some 58) ref_mix_r2.l11 (hr:=by intro w' hs_;obtain ⟨s0,s1,s2⟩:=hs_;go_simp;with_reducible rfl) (h:=?_);refine p_ HT_ 12 (some 59) ref_mix_r2.l12 ?_;refine p_ HT_ 13 (some 60) ref_mix_r2.l13 ?_;refine p_ HT_ 14 (some 61) ref_mix_r2.l14 ?_;refine last_ (i:=15) (N:=none) ref_mix_r2.l15 rfl rfl (one_of HT_.out (by kernel_rfl)) (by decide) (fun K hK=>?_);clear hHeld;refine skip_ (w1:=World.setCell w2.drew ⟨g,c,none⟩ (.int .u64 (wr (v_p2 + v_q2)))) (by rfl) rfl ?_ ?_
 ·go_simp
 refine hK.out _ _ ?_;clear hK K;refine done_ (done_of HT_.out (by kernel_rfl)) ?_;clear s0 s1 s2;clear HT_ HW_;obtain ⟨V3,hV3⟩ : ∃ V',V' = ref_mix.step 2 V2 a b c d x y:=⟨_,rfl⟩
 have hL3 : V3.length = 16:=by rw [hV3,ref_mix.step_length];exact hL2
 have n0_:=HA.out.drew.set c (by omega) (wr (v_p2 + v_q2));rw [show V2.set c (wr (v_p2 + v_q2)) = V3 by rw [hV3,Hv_p.out,Hv_q.out];rfl] at n0_;have n1_:=grown_set (grown_drew HG.out) c (.int .u64 (wr (v_p2 + v_q2)));generalize World.setCell _ _ _ = w3 at n0_ n1_ ⊢;clear HA HG;have HA:=am n0_;have HG:=am n1_;clear n0_ n1_ Hv_p Hv_q;have hA3:=HA.out;have s0:=hA3.cell b (by omega);have s1:=hA3.cell c (by omega);have s2:=hA3.frozen b (by omega);clear hA3;obtain ⟨v_p3,hv_p⟩ : ∃ v,v = V3.getD b 0:=⟨_,rfl⟩;obtain ⟨v_q3,hv_q⟩ : ∃ v,v = V3.getD c 0:=⟨_,rfl⟩;rw [← hv_p] at s0;rw [← hv_q] at s1;have Hv_p:=am hv_p;have Hv_q:=am hv_q;clear hv_p hv_q
 go_upto_region 3 with (fail)
 refine start_ (n:=17) (S:=fun w'=>w'.cell? ⟨g,b,none⟩ = some (.int .u64 (v_p3)) ∧ w'.cell? ⟨g,c,none⟩ = some (.int .u64 (v_q3)) ∧ w'.frozen? ⟨g,b,none⟩ = false) (ds:=[16]) (bl 17 0) (by kernel_rfl) rfl rfl ⟨s0,s1,s2⟩ (fun hHeld=>?_);refine with_tabW ref_mix_r3.tab ref_mix_r3.bits (fun HT_ HW_=>?_);refine p_ HT_ 0 (some 62) ref_mix_r3.l0 ?_;refine p_ HT_ 1 (some 63) ref_mix_r3.l1 ?_;refine p_ HT_ 2 (some 64) ref_mix_r3.l2 ?_;refine p_ HT_ 3 (some 65) ref_mix_r3.l3 ?_;refine p_ HT_ 4 (some 66) ref_mix_r3.l4 ?_;refine p_ HT_ 5 (some 67) ref_mix_r3.l5 ?_;refine tk HT_ HW_ hHeld 6 (some 68) ref_mix_r3.l6 (hr:=by intro w' hs_;obtain ⟨s0,s1,s2⟩:=hs_;go_simp;with_reducible rfl) (h:=?_);refine p_ HT_ 7 (some 69) ref_mix_r3.l7 ?_;refine p_ HT_ 8 (some 70) ref_mix_r3.l8 ?_;refine p_ HT_ 9 (some 71) ref_mix_r3.l9 ?_;refine p_ HT_ 10 (some 72) ref_mix_r3.l10 ?_;refine tk HT_ HW_ hHeld 11 (some 73) ref_mix_r3.l11 (hr:=by intro w' hs_;obtain ⟨s0,s1,s2⟩:=hs_;go_simp;with_reducible rfl) (h:=?_);refine p_ HT_ 12 (some 74) ref_mix_r3.l12 ?_;refine p_ HT_ 14 (some 76) ref_mix_r3.l13 ?_;refine o_ HT_ 13 (some 75) ref_mix_r3.l14 fun K hK=>?_;refine gs Tryd.func71 #[.int .u64 (Go.bits .xor .u64 v_p3 v_q3),.int .u64 24] ?_;refine (althingref2_turned.calls _ _ _ _ (rotR_some24 _)).mono ?_;rintro e w9 ⟨rfl,⟨m_,rfl⟩⟩;refine ⟨_,rfl,?_⟩;refine hK.out _ _ hHeld (fun hHeld=>?_);clear hK K;refine nm (some 75) ?_;refine p_ HT_ 15 (some 77) ref_mix_r3.l15 ?_;refine last_ (i:=16) (N:=none) ref_mix_r3.l16 rfl rfl (one_of HT_.out (by kernel_rfl)) (by decide) (fun K hK=>?_);clear hHeld;refine skip_ (w1:=World.setCell (w3.drew.drewN m_) ⟨g,b,none⟩ (.int .u64 (rotR 24 (Go.bits .xor .u64 v_p3 v_q3)))) (by rfl) rfl ?_ ?_
 ·go_simp
 refine hK.out _ _ ?_;clear hK K;refine done_ (done_of HT_.out (by kernel_rfl)) ?_;clear s0 s1 s2;clear HT_ HW_;obtain ⟨V4,hV4⟩ : ∃ V',V' = ref_mix.step 3 V3 a b c d x y:=⟨_,rfl⟩
 have hL4 : V4.length = 16:=by rw [hV4,ref_mix.step_length];exact hL3
 have n0_:=(HA.out.drew.drewN m_).set b (by omega) (rotR 24 (Go.bits .xor .u64 v_p3 v_q3));rw [show V3.set b (rotR 24 (Go.bits .xor .u64 v_p3 v_q3)) = V4 by rw [hV4,Hv_p.out,Hv_q.out];rfl] at n0_;have n1_:=grown_set (grown_drewN (grown_drew HG.out) m_) b (.int .u64 (rotR 24 (Go.bits .xor .u64 v_p3 v_q3)));generalize World.setCell _ _ _ = w4 at n0_ n1_ ⊢;clear HA HG;have HA:=am n0_;have HG:=am n1_;clear n0_ n1_ Hv_p Hv_q;have hA4:=HA.out;have s0:=hA4.cell a (by omega);have s1:=hA4.cell b (by omega);have s2:=hA4.frozen a (by omega);clear hA4;obtain ⟨v_p4,hv_p⟩ : ∃ v,v = V4.getD a 0:=⟨_,rfl⟩;obtain ⟨v_q4,hv_q⟩ : ∃ v,v = V4.getD b 0:=⟨_,rfl⟩;rw [← hv_p] at s0;rw [← hv_q] at s1;have Hv_p:=am hv_p;have Hv_q:=am hv_q;clear hv_p hv_q
 go_upto_region 4 with (fail)
 refine start_ (n:=18) (S:=fun w'=>w'.cell? ⟨g,a,none⟩ = some (.int .u64 (v_p4)) ∧ w'.cell? ⟨g,b,none⟩ = some (.int .u64 (v_q4)) ∧ w'.frozen? ⟨g,a,none⟩ = false) (ds:=[17]) (bl 18 0) (by kernel_rfl) rfl rfl ⟨s0,s1,s2⟩ (fun hHeld=>?_);refine with_tabW ref_mix_r4.tab ref_mix_r4.bits (fun HT_ HW_=>?_);refine p_ HT_ 0 (some 78) ref_mix_r4.l0 ?_;refine p_ HT_ 1 (some 79) ref_mix_r4.l1 ?_;refine p_ HT_ 2 (some 80) ref_mix_r4.l2 ?_;refine p_ HT_ 3 (some 81) ref_mix_r4.l3 ?_;refine p_ HT_ 4 (some 82) ref_mix_r4.l4 ?_;refine p_ HT_ 5 (some 83) ref_mix_r4.l5 ?_;refine tk HT_ HW_ hHeld 6 (some 84) ref_mix_r4.l6 (hr:=by intro w' hs_;obtain ⟨s0,s1,s2⟩:=hs_;go_simp;with_reducible rfl) (h:=?_);refine p_ HT_ 7 (some 85) ref_mix_r4.l7 ?_;refine p_ HT_ 8 (some 86) ref_mix_r4.l8 ?_;refine p_ HT_ 9 (some 87) ref_mix_r4.l9 ?_;refine p_ HT_ 10 (some 88) ref_mix_r4.l10 ?_;refine tk HT_ HW_ hHeld 11 (some 89) ref_mix_r4.l11 (hr:=by intro w' hs_;obtain ⟨s0,s1,s2⟩:=hs_;go_simp;with_reducible rfl) (h:=?_);refine p_ HT_ 12 (some 90) ref_mix_r4.l12 ?_;refine p_ HT_ 13 (some 91) ref_mix_r4.l13 ?_;refine p_ HT_ 14 (some 92) ref_mix_r4.l14 ?_;refine p_ HT_ 15 (some 93) ref_mix_r4.l15 ?_;refine p_ HT_ 16 (some 94) ref_mix_r4.l16 ?_;refine last_ (i:=17) (N:=none) ref_mix_r4.l17 rfl rfl (one_of HT_.out (by kernel_rfl)) (by decide) (fun K hK=>?_);clear hHeld;refine skip_ (w1:=World.setCell w4.drew ⟨g,a,none⟩ (.int .u64 (wr (wr (v_p4 + v_q4) + y)))) (by rfl) rfl ?_ ?_
 ·go_simp
 refine hK.out _ _ ?_;clear hK K;refine done_ (done_of HT_.out (by kernel_rfl)) ?_;clear s0 s1 s2;clear HT_ HW_;obtain ⟨V5,hV5⟩ : ∃ V',V' = ref_mix.step 4 V4 a b c d x y:=⟨_,rfl⟩
 have hL5 : V5.length = 16:=by rw [hV5,ref_mix.step_length];exact hL4
 have n0_:=HA.out.drew.set a (by omega) (wr (wr (v_p4 + v_q4) + y));rw [show V4.set a (wr (wr (v_p4 + v_q4) + y)) = V5 by rw [hV5,Hv_p.out,Hv_q.out];rfl] at n0_;have n1_:=grown_set (grown_drew HG.out) a (.int .u64 (wr (wr (v_p4 + v_q4) + y)));generalize World.setCell _ _ _ = w5 at n0_ n1_ ⊢;clear HA HG;have HA:=am n0_;have HG:=am n1_;clear n0_ n1_ Hv_p Hv_q;have hA5:=HA.out;have s0:=hA5.cell d (by omega);have s1:=hA5.cell a (by omega);have s2:=hA5.frozen d (by omega);clear hA5;obtain ⟨v_p5,hv_p⟩ : ∃ v,v = V5.getD d 0:=⟨_,rfl⟩;obtain ⟨v_q5,hv_q⟩ : ∃ v,v = V5.getD a 0:=⟨_,rfl⟩;rw [← hv_p] at s0;rw [← hv_q] at s1;have Hv_p:=am hv_p;have Hv_q:=am hv_q;clear hv_p hv_q
 go_upto_region 5 with (fail)
 refine start_ (n:=17) (S:=fun w'=>w'.cell? ⟨g,d,none⟩ = some (.int .u64 (v_p5)) ∧ w'.cell? ⟨g,a,none⟩ = some (.int .u64 (v_q5)) ∧ w'.frozen? ⟨g,d,none⟩ = false) (ds:=[16]) (bl 17 0) (by kernel_rfl) rfl rfl ⟨s0,s1,s2⟩ (fun hHeld=>?_);refine with_tabW ref_mix_r5.tab ref_mix_r5.bits (fun HT_ HW_=>?_);refine p_ HT_ 0 (some 95) ref_mix_r5.l0 ?_;refine p_ HT_ 1 (some 96) ref_mix_r5.l1 ?_;refine p_ HT_ 2 (some 97) ref_mix_r5.l2 ?_;refine p_ HT_ 3 (some 98) ref_mix_r5.l3 ?_;refine p_ HT_ 4 (some 99) ref_mix_r5.l4 ?_;refine p_ HT_ 5 (some 100) ref_mix_r5.l5 ?_;refine tk HT_ HW_ hHeld 6 (some 101) ref_mix_r5.l6 (hr:=by intro w' hs_;obtain ⟨s0,s1,s2⟩:=hs_;go_simp;with_reducible rfl) (h:=?_);refine p_ HT_ 7 (some 102) ref_mix_r5.l7 ?_;refine p_ HT_ 8 (some 103) ref_mix_r5.l8 ?_;refine p_ HT_ 9 (some 104) ref_mix_r5.l9 ?_;refine p_ HT_ 10 (some 105) ref_mix_r5.l10 ?_;refine tk HT_ HW_ hHeld 11 (some 106) ref_mix_r5.l11 (hr:=by intro w' hs_;obtain ⟨s0,s1,s2⟩:=hs_;go_simp;with_reducible rfl) (h:=?_);refine p_ HT_ 12 (some 107) ref_mix_r5.l12 ?_;refine p_ HT_ 14 (some 109) ref_mix_r5.l13 ?_;refine o_ HT_ 13 (some 108) ref_mix_r5.l14 fun K hK=>?_;refine gs Tryd.func71 #[.int .u64 (Go.bits .xor .u64 v_p5 v_q5),.int .u64 16] ?_;refine (althingref2_turned.calls _ _ _ _ (rotR_some16 _)).mono ?_;rintro e w9 ⟨rfl,⟨m_,rfl⟩⟩;refine ⟨_,rfl,?_⟩;refine hK.out _ _ hHeld (fun hHeld=>?_);clear hK K;refine nm (some 108) ?_;refine p_ HT_ 15 (some 110) ref_mix_r5.l15 ?_;refine last_ (i:=16) (N:=none) ref_mix_r5.l16 rfl rfl (one_of HT_.out (by kernel_rfl)) (by decide) (fun K hK=>?_);clear hHeld;refine skip_ (w1:=World.setCell (w5.drew.drewN m_) ⟨g,d,none⟩ (.int .u64 (rotR 16 (Go.bits .xor .u64 v_p5 v_q5)))) (by rfl) rfl ?_ ?_
 ·go_simp
 refine hK.out _ _ ?_;clear hK K;refine done_ (done_of HT_.out (by kernel_rfl)) ?_;clear s0 s1 s2;clear HT_ HW_;obtain ⟨V6,hV6⟩ : ∃ V',V' = ref_mix.step 5 V5 a b c d x y:=⟨_,rfl⟩
 have hL6 : V6.length = 16:=by rw [hV6,ref_mix.step_length];exact hL5
 have n0_:=(HA.out.drew.drewN m_).set d (by omega) (rotR 16 (Go.bits .xor .u64 v_p5 v_q5));rw [show V5.set d (rotR 16 (Go.bits .xor .u64 v_p5 v_q5)) = V6 by rw [hV6,Hv_p.out,Hv_q.out];rfl] at n0_;have n1_:=grown_set (grown_drewN (grown_drew HG.out) m_) d (.int .u64 (rotR 16 (Go.bits .xor .u64 v_p5 v_q5)));generalize World.setCell _ _ _ = w6 at n0_ n1_ ⊢;clear HA HG;have HA:=am n0_;have HG:=am n1_;clear n0_ n1_ Hv_p Hv_q;have hA6:=HA.out;have s0:=hA6.cell c (by omega);have s1:=hA6.cell d (by omega);have s2:=hA6.frozen c (by omega);clear hA6;obtain ⟨v_p6,hv_p⟩ : ∃ v,v = V6.getD c 0:=⟨_,rfl⟩;obtain ⟨v_q6,hv_q⟩ : ∃ v,v = V6.getD d 0:=⟨_,rfl⟩;rw [← hv_p] at s0;rw [← hv_q] at s1;have Hv_p:=am hv_p;have Hv_q:=am hv_q;clear hv_p hv_q
 go_upto_region 6 with (fail)
 refine start_ (n:=16) (S:=fun w'=>w'.cell? ⟨g,c,none⟩ = some (.int .u64 (v_p6)) ∧ w'.cell? ⟨g,d,none⟩ = some (.int .u64 (v_q6)) ∧ w'.frozen? ⟨g,c,none⟩ = false) (ds:=[15]) (bl 16 0) (by kernel_rfl) rfl rfl ⟨s0,s1,s2⟩ (fun hHeld=>?_);refine with_tabW ref_mix_r6.tab ref_mix_r6.bits (fun HT_ HW_=>?_);refine p_ HT_ 0 (some 111) ref_mix_r6.l0 ?_;refine p_ HT_ 1 (some 112) ref_mix_r6.l1 ?_;refine p_ HT_ 2 (some 113) ref_mix_r6.l2 ?_;refine p_ HT_ 3 (some 114) ref_mix_r6.l3 ?_;refine p_ HT_ 4 (some 115) ref_mix_r6.l4 ?_;refine p_ HT_ 5 (some 116) ref_mix_r6.l5 ?_;refine tk HT_ HW_ hHeld 6 (some 117) ref_mix_r6.l6 (hr:=by intro w' hs_;obtain ⟨s0,s1,s2⟩:=hs_;go_simp;with_reducible rfl) (h:=?_);refine p_ HT_ 7 (some 118) ref_mix_r6.l7 ?_;refine p_ HT_ 8 (some 119) ref_mix_r6.l8 ?_;refine p_ HT_ 9 (some 120) ref_mix_r6.l9 ?_;refine p_ HT_ 10 (some 121) ref_mix_r6.l10 ?_;refine tk HT_ HW_ hHeld 11 (some 122) ref_mix_r6.l11 (hr:=by intro w' hs_;obtain ⟨s0,s1,s2⟩:=hs_;go_simp;with_reducible rfl) (h:=?_);refine p_ HT_ 12 (some 123) ref_mix_r6.l12 ?_;refine p_ HT_ 13 (some 124) ref_mix_r6.l13 ?_;refine p_ HT_ 14 (some 125) ref_mix_r6.l14 ?_;refine last_ (i:=15) (N:=none) ref_mix_r6.l15 rfl rfl (one_of HT_.out (by kernel_rfl)) (by decide) (fun K hK=>?_);clear hHeld;refine skip_ (w1:=World.setCell w6.drew ⟨g,c,none⟩ (.int .u64 (wr (v_p6 + v_q6)))) (by rfl) rfl ?_ ?_
 ·go_simp
 refine hK.out _ _ ?_;clear hK K;refine done_ (done_of HT_.out (by kernel_rfl)) ?_;clear s0 s1 s2;clear HT_ HW_;obtain ⟨V7,hV7⟩ : ∃ V',V' = ref_mix.step 6 V6 a b c d x y:=⟨_,rfl⟩
 have hL7 : V7.length = 16:=by rw [hV7,ref_mix.step_length];exact hL6
 have n0_:=HA.out.drew.set c (by omega) (wr (v_p6 + v_q6));rw [show V6.set c (wr (v_p6 + v_q6)) = V7 by rw [hV7,Hv_p.out,Hv_q.out];rfl] at n0_;have n1_:=grown_set (grown_drew HG.out) c (.int .u64 (wr (v_p6 + v_q6)));generalize World.setCell _ _ _ = w7 at n0_ n1_ ⊢;clear HA HG;have HA:=am n0_;have HG:=am n1_;clear n0_ n1_ Hv_p Hv_q;have hA7:=HA.out;have s0:=hA7.cell b (by omega);have s1:=hA7.cell c (by omega);have s2:=hA7.frozen b (by omega);clear hA7;obtain ⟨v_p7,hv_p⟩ : ∃ v,v = V7.getD b 0:=⟨_,rfl⟩;obtain ⟨v_q7,hv_q⟩ : ∃ v,v = V7.getD c 0:=⟨_,rfl⟩;rw [← hv_p] at s0;rw [← hv_q] at s1;have Hv_p:=am hv_p;have Hv_q:=am hv_q;clear hv_p hv_q
 go_upto_region 7 with (fail)
 refine start_ (n:=17) (S:=fun w'=>w'.cell? ⟨g,b,none⟩ = some (.int .u64 (v_p7)) ∧ w'.cell? ⟨g,c,none⟩ = some (.int .u64 (v_q7)) ∧ w'.frozen? ⟨g,b,none⟩ = false) (ds:=[16]) (bl 17 0) (by kernel_rfl) rfl rfl ⟨s0,s1,s2⟩ (fun hHeld=>?_);refine with_tabW ref_mix_r7.tab ref_mix_r7.bits (fun HT_ HW_=>?_);refine p_ HT_ 0 (some 126) ref_mix_r7.l0 ?_;refine p_ HT_ 1 (some 127) ref_mix_r7.l1 ?_;refine p_ HT_ 2 (some 128) ref_mix_r7.l2 ?_;refine p_ HT_ 3 (some 129) ref_mix_r7.l3 ?_;refine p_ HT_ 4 (some 130) ref_mix_r7.l4 ?_;refine p_ HT_ 5 (some 131) ref_mix_r7.l5 ?_;refine tk HT_ HW_ hHeld 6 (some 132) ref_mix_r7.l6 (hr:=by intro w' hs_;obtain ⟨s0,s1,s2⟩:=hs_;go_simp;with_reducible rfl) (h:=?_);refine p_ HT_ 7 (some 133) ref_mix_r7.l7 ?_;refine p_ HT_ 8 (some 134) ref_mix_r7.l8 ?_;refine p_ HT_ 9 (some 135) ref_mix_r7.l9 ?_;refine p_ HT_ 10 (some 136) ref_mix_r7.l10 ?_;refine tk HT_ HW_ hHeld 11 (some 137) ref_mix_r7.l11 (hr:=by intro w' hs_;obtain ⟨s0,s1,s2⟩:=hs_;go_simp;with_reducible rfl) (h:=?_);refine p_ HT_ 12 (some 138) ref_mix_r7.l12 ?_;refine p_ HT_ 14 (some 140) ref_mix_r7.l13 ?_;refine o_ HT_ 13 (some 139) ref_mix_r7.l14 fun K hK=>?_;refine gs Tryd.func71 #[.int .u64 (Go.bits .xor .u64 v_p7 v_q7),.int .u64 63] ?_;refine (althingref2_turned.calls _ _ _ _ (rotR_some63 _)).mono ?_;rintro e w9 ⟨rfl,⟨m_,rfl⟩⟩;refine ⟨_,rfl,?_⟩;refine hK.out _ _ hHeld (fun hHeld=>?_);clear hK K;refine nm (some 139) ?_;refine p_ HT_ 15 (some 141) ref_mix_r7.l15 ?_;refine last_ (i:=16) (N:=none) ref_mix_r7.l16 rfl rfl (one_of HT_.out (by kernel_rfl)) (by decide) (fun K hK=>?_);clear hHeld;refine skip_ (w1:=World.setCell (w7.drew.drewN m_) ⟨g,b,none⟩ (.int .u64 (rotR 63 (Go.bits .xor .u64 v_p7 v_q7)))) (by rfl) rfl ?_ ?_
 ·go_simp
 refine hK.out _ _ ?_;clear hK K;refine done_ (done_of HT_.out (by kernel_rfl)) ?_;clear s0 s1 s2;clear HT_ HW_;obtain ⟨V8,hV8⟩ : ∃ V',V' = ref_mix.step 7 V7 a b c d x y:=⟨_,rfl⟩
 have hL8 : V8.length = 16:=by rw [hV8,ref_mix.step_length];exact hL7
 have n0_:=(HA.out.drew.drewN m_).set b (by omega) (rotR 63 (Go.bits .xor .u64 v_p7 v_q7));rw [show V7.set b (rotR 63 (Go.bits .xor .u64 v_p7 v_q7)) = V8 by rw [hV8,Hv_p.out,Hv_q.out];rfl] at n0_;have n1_:=grown_set (grown_drewN (grown_drew HG.out) m_) b (.int .u64 (rotR 63 (Go.bits .xor .u64 v_p7 v_q7)));generalize World.setCell _ _ _ = w8 at n0_ n1_ ⊢;clear HA HG;have HA:=am n0_;have HG:=am n1_;clear n0_ n1_ Hv_p Hv_q;refine bodyPost_end (v:= .tuple #[]) (results_none rfl _ _ _) rfl ?_;refine ⟨rfl,?_,HG.out⟩
 have e : ref_mix.f V0 a b c d x y = V8:=by rw [hV8,hV7,hV6,hV5,hV4,hV3,hV2,hV1];rfl
 rw [e];exact HA.out
end Go.Proofs.YtilckocpgififaaDoor.G
/- the reference's block: what it computes, in plain Lean (laid by mkref.py). -/
namespace Go.Proofs.YtilckocpgififaaDoor.G
open Go.RowKit Go.Proofs.YtilckocpgififaaDoorW.PrintWords Go.Proofs.YtilckocpgififaaDoorW.PrintLast Go.Proofs.YtilckocpgififaaDoorW.PrintMore
set_option linter.unusedVariables false
set_option linter.unusedSimpArgs false
def wordP (p : List Int) (i : Nat) : Nat → Int
 | 0=>0
 | j + 1=>Go.bits .or .u64 (shl .u64 (wordP p i j) 8) (p.getD (8 * i + (7 - j)) 0)
def mTo (p : List Int) (x j : Nat) : List Int:=(List.range 16).map fun t=>if t < x then wordP p t 8 else if t = x then wordP p t j else 0
def wordsR (p : List Int) : List Int:=(List.range 16).map fun t=>wordP p t 8
theorem mTo_length (p : List Int) (x j : Nat) : (mTo p x j).length = 16:=by simp [mTo]
theorem mTo_get (p : List Int) (x j : Nat) (hx : x < 16) : (mTo p x j).getD x 0 = wordP p x j:=by
 unfold mTo
 rw [List.getD_eq_getElem?_getD,List.getElem?_map,List.getElem?_range hx]
 simp
theorem mTo_set (p : List Int) (x j : Nat) : (mTo p x j).set x (wordP p x (j + 1)) = mTo p x (j + 1):=by
 refine List.ext_getElem? fun t=>?_
 unfold mTo
 rw [List.getElem?_set]
 by_cases ht : t < 16
 rotate_left
 ·rw [List.length_map,List.length_range,List.getElem?_eq_none (by simp;omega),List.getElem?_eq_none (by simp;omega)]
  split
  ·rw [if_neg (by omega)]
  ·rfl
 rw [List.length_map,List.length_range];rw [List.getElem?_map,List.getElem?_range ht,List.getElem?_map,List.getElem?_range ht]
 by_cases e : x = t
 ·subst e;rw [if_pos rfl,if_pos ht]
  simp
 rw [if_neg e];simp only [Option.map_some];rw [if_neg (show ¬ t = x from fun h=>e h.symm),if_neg (show ¬ t = x from fun h=>e h.symm)]
theorem mTo_next (p : List Int) (x : Nat) : mTo p x 8 = mTo p (x + 1) 0:=by
 unfold mTo
 refine List.map_congr_left fun t _=>?_
 by_cases h1 : t < x
 ·rw [if_pos h1,if_pos (by omega)]
 rw [if_neg h1]
 by_cases h2 : t = x
 ·rw [if_pos h2,if_pos (by omega)]
 rw [if_neg h2,if_neg (by omega)]
 split <;> rfl
theorem mTo_zero (p : List Int) : mTo p 0 0 = zero16:=by
 unfold mTo zero16
 refine List.ext_getElem? fun t=>?_
 by_cases ht : t < 16
 rotate_left
 ·rw [List.getElem?_eq_none (by simp;omega),List.getElem?_eq_none (by simp;omega)]
 rw [List.getElem?_map,List.getElem?_range ht,List.getElem?_replicate,if_pos ht]
 simp
 intro h;subst h;rfl
theorem mTo_all (p : List Int) : mTo p 16 0 = wordsR p:=by
 unfold mTo wordsR
 refine List.map_congr_left fun t ht=>?_;rw [if_pos (List.mem_range.1 ht)]
def vTo (H : List Int) (x : Nat) : List Int:=(List.range 16).map fun t=>if t < 8 then (if t < x then H.getD t 0 else 0) else (if t < x + 8 then beginV.getD (t - 8) 0 else 0)
theorem vTo_length (H : List Int) (x : Nat) : (vTo H x).length = 16:=by simp [vTo]
theorem vTo_zero (H : List Int) : vTo H 0 = zero16:=by
 unfold vTo zero16
 refine List.ext_getElem? fun t=>?_
 by_cases ht : t < 16
 rotate_left
 ·rw [List.getElem?_eq_none (by simp;omega),List.getElem?_eq_none (by simp;omega)]
 rw [List.getElem?_map,List.getElem?_range ht,List.getElem?_replicate,if_pos ht];simp only [Option.map_some,Option.some.injEq]
 by_cases h8 : t < 8
 ·rw [if_pos h8,if_neg (by omega)]
 rw [if_neg h8,if_neg (by omega)]
theorem vTo_set (H : List Int) (x : Nat) (hx : x < 8) : ((vTo H x).set x (H.getD x 0)).set (x + 8) (beginV.getD x 0) = vTo H (x + 1):=by
 refine List.ext_getElem? fun t=>?_
 by_cases ht : t < 16
 rotate_left
 ·rw [List.getElem?_eq_none (by simp [vTo];omega),List.getElem?_eq_none (by simp [vTo];omega)]
 rw [List.getElem?_set,List.getElem?_set]
 unfold vTo
 simp only [List.length_set,List.length_map,List.length_range];rw [List.getElem?_map,List.getElem?_range ht,List.getElem?_map,List.getElem?_range ht]
 by_cases e1 : x + 8 = t
 ·subst e1;rw [if_pos rfl,if_pos ht];simp only [Option.map_some];rw [if_neg (by omega),if_pos (by omega)];rw [show x + 8 - 8 = x by omega]
 rw [if_neg e1]
 by_cases e2 : x = t
 ·subst e2;rw [if_pos rfl,if_pos ht];simp only [Option.map_some];rw [if_pos hx,if_pos (by omega)]
 rw [if_neg e2];simp only [Option.map_some,Option.some.injEq]
 by_cases h8 : t < 8
 ·rw [if_pos h8,if_pos h8]
  by_cases h3 : t < x
  ·rw [if_pos h3,if_pos (by omega)]
  rw [if_neg h3,if_neg (by omega)]
 rw [if_neg h8,if_neg h8]
 by_cases h3 : t < x + 8
 ·rw [if_pos h3,if_pos (by omega)]
 rw [if_neg h3,if_neg (by omega)]
theorem vTo_all (H : List Int) (h : H.length = 8) : vTo H 8 = H ++ beginV:=by
 have hb : beginV.length = 8:=rfl;refine List.ext_getElem? fun t=>?_
 unfold vTo
 by_cases ht : t < 16
 rotate_left
 ·rw [List.getElem?_eq_none (by simp;omega),List.getElem?_eq_none (by simp [hb,h];omega)]
 rw [List.getElem?_map,List.getElem?_range ht];simp only [Option.map_some]
 by_cases h8 : t < 8
 ·rw [if_pos h8,if_pos h8,List.getElem?_append_left (by omega),List.getD_eq_getElem?_getD,List.getElem?_eq_getElem (by omega)];rfl
 rw [if_neg h8,if_pos (by omega),List.getElem?_append_right (by omega),h,List.getD_eq_getElem?_getD,List.getElem?_eq_getElem (by omega)];rfl
def halfA (M : List Int) (P : List Nat) (V : List Int) (k : Nat) : List Int:=ref_mix.f V k (k + 4) (k + 8) (k + 12) (M.getD (P.getD (2 * k) 0) 0) (M.getD (P.getD (2 * k + 1) 0) 0)
def halfB (M : List Int) (P : List Nat) (V : List Int) (k : Nat) : List Int:=ref_mix.f V k (4 + (k + 1) % 4) (8 + (k + 2) % 4) (12 + (k + 3) % 4) (M.getD (P.getD (8 + 2 * k) 0) 0) (M.getD (P.getD (9 + 2 * k) 0) 0)
theorem ref_mix_length (V : List Int) (a b c d : Nat) (x y : Int) : (ref_mix.f V a b c d x y).length = V.length:=by
 unfold ref_mix.f
 simp only [List.foldl_cons,List.foldl_nil,ref_mix.step_length]
def runA (M : List Int) (P : List Nat) (l : List Nat) (V : List Int) : List Int:=l.foldl (halfA M P) V
def runB (M : List Int) (P : List Nat) (l : List Nat) (V : List Int) : List Int:=l.foldl (halfB M P) V
def roundR (M : List Int) (P : List Nat) (V : List Int) : List Int:=runB M P (List.range 4) (runA M P (List.range 4) V)
theorem runA_length (M : List Int) (P : List Nat) : ∀ (l : List Nat) (V : List Int),(runA M P l V).length = V.length
 | [],_=>rfl
 | k :: l,V=>(runA_length M P l _).trans (ref_mix_length _ _ _ _ _ _ _)
theorem runB_length (M : List Int) (P : List Nat) : ∀ (l : List Nat) (V : List Int),(runB M P l V).length = V.length
 | [],_=>rfl
 | k :: l,V=>(runB_length M P l _).trans (ref_mix_length _ _ _ _ _ _ _)
def roundsR (M : List Int) : List Nat → List Int → List Int
 | [],V=>V
 | i :: l,V=>roundsR M l (roundR M (permOf (i % 10)) V)
theorem roundsR_length (M : List Int) : ∀ (l : List Nat) (V : List Int),(roundsR M l V).length = V.length
 | [],_=>rfl
 | i :: l,V=>(roundsR_length M l _).trans ((runB_length _ _ _ _).trans (runA_length _ _ _ _))
theorem runA_rest (M V R : List Int) (P : List Nat) (k : Nat) (hk : k < 4) (h : runA M P (List.range' k (4 - k)) V = R) : runA M P (List.range' (k + 1) (4 - (k + 1))) (halfA M P V k) = R:=by
 rw [show 4 - k = (4 - (k + 1)) + 1 by omega,List.range'_succ] at h;exact h
theorem runB_rest (M V R : List Int) (P : List Nat) (k : Nat) (hk : k < 4) (h : runB M P (List.range' k (4 - k)) V = R) : runB M P (List.range' (k + 1) (4 - (k + 1))) (halfB M P V k) = R:=by
 rw [show 4 - k = (4 - (k + 1)) + 1 by omega,List.range'_succ] at h;exact h
theorem roundsR_rest (M V R : List Int) (k : Nat) (hk : k < 12) (h : roundsR M (List.range' k (12 - k)) V = R) : roundsR M (List.range' (k + 1) (12 - (k + 1))) (roundR M (permOf (k % 10)) V) = R:=by
 rw [show 12 - k = (12 - (k + 1)) + 1 by omega,List.range'_succ,roundsR] at h;exact h
def outR (V : List Int) : List Nat → List Int → List Int
 | [],H=>H
 | i :: l,H=>outR V l (H.set i (Go.bits .xor .u64 (Go.bits .xor .u64 (H.getD i 0) (V.getD i 0)) (V.getD (i + 8) 0)))
theorem outR_length (V : List Int) : ∀ (l : List Nat) (H : List Int),(outR V l H).length = H.length
 | [],_=>rfl
 | i :: l,H=>(outR_length V l _).trans (by simp)
theorem outR_rest (V H R : List Int) (k : Nat) (hk : k < 8) (h : outR V (List.range' k (8 - k)) H = R) : outR V (List.range' (k + 1) (8 - (k + 1))) (H.set k (Go.bits .xor .u64 (Go.bits .xor .u64 (H.getD k 0) (V.getD k 0)) (V.getD (k + 8) 0))) = R:=by
 rw [show 8 - k = (8 - (k + 1)) + 1 by omega,List.range'_succ,outR] at h;exact h
def vInitR (H : List Int) (cnt : Int) (last : Bool) : List Int:=
 let v:=H ++ beginV
 let v:=v.set 12 (Go.bits .xor .u64 (v.getD 12 0) cnt)
 if last then v.set 14 (notU (v.getD 14 0)) else v
def blockR (H p : List Int) (cnt : Int) (last : Bool) : List Int:=outR (roundsR (wordsR p) (List.range 12) (vInitR H (wr cnt) last)) (List.range 8) H
theorem blockR_length (H p : List Int) (cnt : Int) (last : Bool) : (blockR H p cnt last).length = H.length:=outR_length _ _ _
theorem ref_order_is : ∀ x : Fin 12,althingref2_order.f (x.val : Int) = some (rowOf (x.val % 10)):=by decide +kernel
theorem ref_digit_is : ∀ (j : Fin 10) (i : Fin 16),∃ b : UInt8,(rowOf j.val)[i.val]? = some b ∧ althingref2_digit.f (b.toNat : Int) = some (((permOf j.val).getD i.val 0 : Nat) : Int) ∧ (permOf j.val).getD i.val 0 < 16:=by
 have h : ∀ (j : Fin 10) (i : Fin 16),((rowOf j.val)[i.val]?).any (fun b=>althingref2_digit.f (b.toNat : Int) == some (((permOf j.val).getD i.val 0 : Nat) : Int)) = true ∧ (permOf j.val).getD i.val 0 < 16:=by decide +kernel
 intro j i;obtain ⟨h1,h2⟩:=h j i
 cases hb : (rowOf j.val)[i.val]? with
 | none=>rw [hb] at h1;cases h1
 | some b=>
   rw [hb] at h1;exact ⟨b,rfl,by simpa using h1,h2⟩
end Go.Proofs.YtilckocpgififaaDoor.G
/- the reference's begin and block (laid by mkref.py) -/
namespace Go.Proofs.YtilckocpgififaaDoor.G
open Go.RowKit Go.Proofs.YtilckocpgififaaDoorW.PrintWords Go.Proofs.YtilckocpgififaaDoorW.PrintLast Go.Proofs.YtilckocpgififaaDoorW.PrintMore
set_option linter.unusedVariables false
set_option linter.unusedSimpArgs false
def ref_block_r8.T : Bool × List (List Nat × List Nat):=(true,[([],[]),([],[]),([1],[1]),([2],[2]),([3],[3]),([],[]),([],[]),([6],[6]),([],[]),([7,8],[7,8]),([5,9],[5,9]),([10],[10]),([11],[11]),([4,12],[4,12]),([0,0,1,2,3,4,5,6,7,8,9,10,11,12,13],[0]),([14,13,0,1,2,3,4,5,6,7,8,9,10,11,12,13],[13,14])])
def ref_block_r8.B : List Nat:=[0,0,2,6,14,0,0,64,0,448,992,2016,4064,8190,16383,32767]
theorem ref_block_r8.tab : rtab .any (opsOf Tryd.f32 8) = ref_block_r8.T:=by kernel_rfl
theorem ref_block_r8.bits : waitsOk ref_block_r8.T.2 ref_block_r8.B = true:=by kernel_rfl
def ref_block_r8.l0 : Array Bool:=bl 16 1
def ref_block_r8.l1 : Array Bool:=bl 16 3
def ref_block_r8.l2 : Array Bool:=bl 16 7
def ref_block_r8.l3 : Array Bool:=bl 16 15
def ref_block_r8.l4 : Array Bool:=bl 16 31
def ref_block_r8.l5 : Array Bool:=bl 16 63
def ref_block_r8.l6 : Array Bool:=bl 16 127
def ref_block_r8.l7 : Array Bool:=bl 16 255
def ref_block_r8.l8 : Array Bool:=bl 16 511
def ref_block_r8.l9 : Array Bool:=bl 16 1023
def ref_block_r8.l10 : Array Bool:=bl 16 2047
def ref_block_r8.l11 : Array Bool:=bl 16 4095
def ref_block_r8.l12 : Array Bool:=bl 16 8191
def ref_block_r8.l13 : Array Bool:=bl 16 16383
def ref_block_r8.l14 : Array Bool:=bl 16 32767
def ref_block_r8.l15 : Array Bool:=bl 16 65535
def ref_block_r25.T : Bool × List (List Nat × List Nat):=(true,[([],[]),([],[]),([1],[1]),([],[]),([3],[3]),([],[]),([5],[5]),([],[]),([],[]),([8],[8]),([7,9],[7,9]),([10],[10]),([11],[11]),([12],[12]),([],[]),([],[]),([15],[15]),([16],[16]),([14,17],[14,17]),([18,11],[18]),([19],[19]),([20],[20]),([0,2,4,6,13,21,19],[0,2,4,6,13,21])])
def ref_block_r25.B : List Nat:=[0,0,2,0,8,0,32,0,0,256,896,1920,3968,8064,0,0,32768,98304,245760,511872,1036160,2084736,4194303]
theorem ref_block_r25.tab : rtab .any (opsOf Tryd.f32 25) = ref_block_r25.T:=by kernel_rfl
theorem ref_block_r25.bits : waitsOk ref_block_r25.T.2 ref_block_r25.B = true:=by kernel_rfl
def ref_block_r25.l0 : Array Bool:=bl 23 1
def ref_block_r25.l1 : Array Bool:=bl 23 3
def ref_block_r25.l2 : Array Bool:=bl 23 7
def ref_block_r25.l3 : Array Bool:=bl 23 15
def ref_block_r25.l4 : Array Bool:=bl 23 31
def ref_block_r25.l5 : Array Bool:=bl 23 63
def ref_block_r25.l6 : Array Bool:=bl 23 127
def ref_block_r25.l7 : Array Bool:=bl 23 255
def ref_block_r25.l8 : Array Bool:=bl 23 511
def ref_block_r25.l9 : Array Bool:=bl 23 1023
def ref_block_r25.l10 : Array Bool:=bl 23 2047
def ref_block_r25.l11 : Array Bool:=bl 23 18431
def ref_block_r25.l12 : Array Bool:=bl 23 51199
def ref_block_r25.l13 : Array Bool:=bl 23 116735
def ref_block_r25.l14 : Array Bool:=bl 23 247807
def ref_block_r25.l15 : Array Bool:=bl 23 509951
def ref_block_r25.l16 : Array Bool:=bl 23 511999
def ref_block_r25.l17 : Array Bool:=bl 23 516095
def ref_block_r25.l18 : Array Bool:=bl 23 524287
def ref_block_r25.l19 : Array Bool:=bl 23 1048575
def ref_block_r25.l20 : Array Bool:=bl 23 2097151
def ref_block_r25.l21 : Array Bool:=bl 23 4194303
def ref_block_r25.l22 : Array Bool:=bl 23 8388607
def ref_block_r29.T : Bool × List (List Nat × List Nat):=(true,[([],[]),([],[]),([1],[1]),([2],[2]),([3],[3]),([],[]),([5],[5]),([6],[6]),([7],[7]),([],[]),([9],[9]),([10],[10]),([11],[11]),([],[]),([],[]),([14],[14]),([15],[15]),([13,16],[13,16]),([17],[17]),([18],[18]),([19],[19]),([],[]),([],[]),([22],[22]),([23],[23]),([21,24],[21,24]),([25,18],[25]),([26],[26]),([27],[27]),([0,4,8,12,20,28,26],[0,4,8,12,20,28])])
def ref_block_r29.B : List Nat:=[0,0,2,6,14,0,32,96,224,0,512,1536,3584,0,0,16384,49152,122880,253952,516096,1040384,0,0,4194304,12582912,31457280,65527808,132636672,266854400,536870911]
theorem ref_block_r29.tab : rtab .any (opsOf Tryd.f32 29) = ref_block_r29.T:=by kernel_rfl
theorem ref_block_r29.bits : waitsOk ref_block_r29.T.2 ref_block_r29.B = true:=by kernel_rfl
def ref_block_r29.l0 : Array Bool:=bl 30 1
def ref_block_r29.l1 : Array Bool:=bl 30 3
def ref_block_r29.l2 : Array Bool:=bl 30 7
def ref_block_r29.l3 : Array Bool:=bl 30 15
def ref_block_r29.l4 : Array Bool:=bl 30 31
def ref_block_r29.l5 : Array Bool:=bl 30 63
def ref_block_r29.l6 : Array Bool:=bl 30 127
def ref_block_r29.l7 : Array Bool:=bl 30 255
def ref_block_r29.l8 : Array Bool:=bl 30 511
def ref_block_r29.l9 : Array Bool:=bl 30 1023
def ref_block_r29.l10 : Array Bool:=bl 30 2047
def ref_block_r29.l11 : Array Bool:=bl 30 4095
def ref_block_r29.l12 : Array Bool:=bl 30 8191
def ref_block_r29.l13 : Array Bool:=bl 30 16383
def ref_block_r29.l14 : Array Bool:=bl 30 32767
def ref_block_r29.l15 : Array Bool:=bl 30 65535
def ref_block_r29.l16 : Array Bool:=bl 30 131071
def ref_block_r29.l17 : Array Bool:=bl 30 262143
def ref_block_r29.l18 : Array Bool:=bl 30 2359295
def ref_block_r29.l19 : Array Bool:=bl 30 6553599
def ref_block_r29.l20 : Array Bool:=bl 30 14942207
def ref_block_r29.l21 : Array Bool:=bl 30 31719423
def ref_block_r29.l22 : Array Bool:=bl 30 65273855
def ref_block_r29.l23 : Array Bool:=bl 30 65535999
def ref_block_r29.l24 : Array Bool:=bl 30 66060287
def ref_block_r29.l25 : Array Bool:=bl 30 67108863
def ref_block_r29.l26 : Array Bool:=bl 30 134217727
def ref_block_r29.l27 : Array Bool:=bl 30 268435455
def ref_block_r29.l28 : Array Bool:=bl 30 536870911
def ref_block_r29.l29 : Array Bool:=bl 30 1073741823
def ref_block_r33.T : Bool × List (List Nat × List Nat):=(true,[([],[]),([],[]),([1],[1]),([2],[2]),([],[]),([4],[4]),([5],[5]),([3,6],[3,6]),([],[]),([8],[8]),([9],[9]),([10],[10]),([7,11],[7,11]),([0,0,1,2,3,4,5,6,7,8,9,10,11,12],[0]),([13,12,0,1,2,3,4,5,6,7,8,9,10,11,12],[12,13])])
def ref_block_r33.B : List Nat:=[0,0,2,6,0,16,48,126,0,256,768,1792,4094,8191,16383]
theorem ref_block_r33.tab : rtab .any (opsOf Tryd.f32 33) = ref_block_r33.T:=by kernel_rfl
theorem ref_block_r33.bits : waitsOk ref_block_r33.T.2 ref_block_r33.B = true:=by kernel_rfl
def ref_block_r33.l0 : Array Bool:=bl 15 1
def ref_block_r33.l1 : Array Bool:=bl 15 3
def ref_block_r33.l2 : Array Bool:=bl 15 7
def ref_block_r33.l3 : Array Bool:=bl 15 15
def ref_block_r33.l4 : Array Bool:=bl 15 31
def ref_block_r33.l5 : Array Bool:=bl 15 63
def ref_block_r33.l6 : Array Bool:=bl 15 127
def ref_block_r33.l7 : Array Bool:=bl 15 255
def ref_block_r33.l8 : Array Bool:=bl 15 511
def ref_block_r33.l9 : Array Bool:=bl 15 1023
def ref_block_r33.l10 : Array Bool:=bl 15 2047
def ref_block_r33.l11 : Array Bool:=bl 15 4095
def ref_block_r33.l12 : Array Bool:=bl 15 8191
def ref_block_r33.l13 : Array Bool:=bl 15 16383
def ref_block_r33.l14 : Array Bool:=bl 15 32767
set_option maxRecDepth 100000 in
set_option maxHeartbeats 16000000 in
theorem ref_begin.calls (w : World) : Calls Tryd.prog 31 #[] w fun e w'=>e = .returned (.agg (beginV.map (Value.int .u64)).toArray) ∧ Below w.heap.size w w':=by
 obtain ⟨Z,hZ⟩ : ∃ Z,Z = (List.replicate 8 (0 : Int)).map (Value.int .u64):=⟨_,rfl⟩;obtain ⟨X,hX⟩ : ∃ X,X = beginV.map (Value.int .u64):=⟨_,rfl⟩
 have hZl : Z.length = 8:=by rw [hZ];rfl
 have hXl : X.length = 8:=by rw [hX];rfl
 have hal : ∀ w,(zeroValue 62).run Tryd.prog w = .ok (.agg Z.toArray) w:=fun w=>by rw [hZ];exact zero_run info_a8 w
 have hbr : ∀ w,(Instr.build 62 #[(0,.int .u64 7640891576956012808),(1,.int .u64 13503953896175478587),(2,.int .u64 4354685564936845355),(3,.int .u64 11912009170470909681),(4,.int .u64 5840696475078001361),(5,.int .u64 11170449401992604703),(6,.int .u64 2270897969802886507),(7,.int .u64 6620516959819538809)]).run Tryd.prog w = .ok (.agg X.toArray) w:=fun w=>run_build w _ _ _ (by rw [hX];exact built_begin)
 have hXo : ∀ v ∈ X,v.oneCell' = true:=by rw [hX];exact one_of_map _
 rw [← hX];have HX:=am hX;have HZl:=am hZl;have HXl:=am hXl;have HXo:=am hXo;clear hX hZ hZl hXl hXo;go_enter Tryd.func31,Tryd.ntmps31
 go_upto_region 1 with ((with_reducible refine gate_dst (N:=0) rfl ?_);refine box_event ?hg (N:=0) ?hd (cs:=Z.toArray) (t:=62) ?hr ?_;(case hd=>rfl);(case hg=>rfl);(case hr=>first | (simp [execOp,Instr.alloc,hal,newVar,newRow,go_sem];done) | (simp [execOp,Instr.alloc,hal,newVar,newRow,go_sem];rfl));intro g2 hg_ w2 hbox_ hb_;have G2:=am hg_;have BZ2:=am (there_box hbox_);have HB2:=am hb_;clear hg_ hbox_ hb_)
 go_wp2_with (first
  | ((with_reducible refine gate_dst (N:=1) rfl ?_);refine Kd.event_run (v:= .agg X.toArray) (w1:=w2) rfl (by first | (simp [execOp,hbr,go_sem];done) | (simp [execOp,hbr,go_sem];rw [HX.out];rfl)) ?_)
  | ((with_reducible refine gate_store (t:=62) (p:=0) rfl ?_);refine wpList_store_mid rfl 62 _ _ rfl g2 0 X.toArray rfl rfl (by rw [List.size_toArray,HXl.out,← HZl.out];exact BZ2.out) (by rw [List.size_toArray,HXl.out];exact size_of info_a8) (all_oneCell_toArray HXo.out) ?_))
 have BR:=World.rangeAt_setCells_same w2 g2 0 X (by rw [HXl.out,← HZl.out];exact BZ2.out);have hres:=run_loadVar_mid (P:=Tryd.prog) (w2.setCells g2 0 X) g2 0 62 X _ BR Tryd.underlying62 rfl (by rw [HXl.out];exact size_of info_a8);refine bodyPost_ret (v:= .agg X.toArray) (results_cell rfl _ rfl hres) rfl ?_;exact ⟨rfl,below_setCells g2 (by have:=G2.out;omega) X 0 w2 HB2.out⟩
theorem ref_mix_i (g : Nat) (V0 : List Int) (a b c d x y : Int) (w : World) (ha : 0 ≤ a ∧ a < 16) (hb : 0 ≤ b ∧ b < 16) (hc : 0 ≤ c ∧ c < 16) (hd : 0 ≤ d ∧ d < 16) (hL0 : V0.length = 16) (hA : Arr w g V0) :
 Calls Tryd.prog 54 #[.pointer (some ⟨g,0,none⟩),.int .i64 a,.int .i64 b,.int .i64 c,.int .i64 d,.int .u64 x,.int .u64 y] w fun e w'=>e = .returned (.tuple #[]) ∧ Arr w' g (ref_mix.f V0 a.toNat b.toNat c.toNat d.toNat x y) ∧ w.grownBy w' (some g):=by
 have:=ref_mix.calls g a.toNat b.toNat c.toNat d.toNat V0 x y w (by omega) (by omega) (by omega) (by omega) hL0 hA;rwa [Int.toNat_of_nonneg ha.1,Int.toNat_of_nonneg hb.1,Int.toNat_of_nonneg hc.1,Int.toNat_of_nonneg hd.1] at this
theorem ref_word (j : Nat) (hj : j < 10) (i : Int) (h0 : 0 ≤ i) (h1 : i < 16) : ∃ b1 p1 : Int,(∀ W,(Instr.index 9 (.string (rowOf j)) (.int .i64 i)).run Tryd.prog W = .ok (.int .u8 b1) W) ∧ althingref2_digit.f b1 = some p1 ∧ 0 ≤ p1 ∧ p1 < 16 ∧ p1.toNat = (permOf j).getD i.toNat 0:=by
 obtain ⟨b,hb,hd,hp⟩:=ref_digit_is ⟨j,hj⟩ ⟨i.toNat,by omega⟩;refine ⟨(b.toNat : Int),_,fun W=>?_,hd,by omega,Int.ofNat_lt.2 hp,by simp⟩;have hb' : (rowOf j)[i.toNat]? = some b:=hb
 simp [Instr.index,run_underlying Tryd.underlying9,asIntOf,h0,go_sem,hb']
set_option maxRecDepth 100000 in
set_option maxHeartbeats 16000000 in
theorem ref_block.calls (H p : List Int) (A : Option Addr) (cp : Nat) (cnt : Int) (last : Bool) (w : World) (hH : H.length = 8) (hp : p.length = 128) (hC : Kd.C (Kd.int .u8) w A p.length p) (hB : ∀ c ∈ p,0 ≤ c ∧ c < 256) :
 Calls Tryd.prog 32 #[.agg (H.map (Value.int .u64)).toArray,.slice A p.length cp,.int .i64 cnt,.bool last] w fun e w'=>e = .returned (.agg ((blockR H p cnt last).map (Value.int .u64)).toArray) ∧ Below w.heap.size w w':=by
 obtain ⟨Z,hZ⟩ : ∃ Z,Z = zero16.map (Value.int .u64):=⟨_,rfl⟩;obtain ⟨Z8,hZ8⟩ : ∃ Z,Z = (List.replicate 8 (0 : Int)).map (Value.int .u64):=⟨_,rfl⟩;obtain ⟨LH,hLH⟩ : ∃ L,L = H.map (Value.int .u64):=⟨_,rfl⟩;obtain ⟨L8,hL8⟩ : ∃ L,L = beginV.map (Value.int .u64):=⟨_,rfl⟩
 have hZl : Z.length = 16:=by rw [hZ];rfl
 have hZ8l : Z8.length = 8:=by rw [hZ8];rfl
 have hL8l : L8.length = 8:=by rw [hL8];rfl
 have hLHl : LH.length = 8:=by rw [hLH,List.length_map,hH]
 have hL8o : ∀ v ∈ L8,v.oneCell' = true:=by rw [hL8];exact one_of_map _
 have HAL : Aside0 (∀ w,(zeroValue 91).run Tryd.prog w = .ok (.agg Z.toArray) w):=⟨fun w=>by rw [hZ];exact zero_run info_a16 w⟩;have HAL8 : Aside0 (∀ w,(zeroValue 62).run Tryd.prog w = .ok (.agg Z8.toArray) w):=⟨fun w=>by rw [hZ8];exact zero_run info_a8 w⟩;have HBE : Aside0 (∀ w,Calls Tryd.prog 31 #[] w fun e w'=>e = .returned (.agg L8.toArray) ∧ Below w.heap.size w w'):=⟨fun w=>by rw [hL8];exact ref_begin.calls w⟩
 have HLT : Aside0 (∀ ad,A = some ad → ad.block < w.heap.size):=⟨fun ad e=>by
  obtain ⟨ad',e',hc⟩:=C_cell hC 0 (by omega) rfl;rw [e] at e';cases e';have:=World.block_lt_of_cell? w _ hc
  rwa [add_block] at this⟩
 rw [← hLH];have HZ:=am hZ;have HZl:=am hZl;have HZ8l:=am hZ8l;have HL8:=am hL8;have HL8l:=am hL8l;have HL8o:=am hL8o;have HLH:=am hLH;have HLHl:=am hLHl;have HC:=am hC;have HBy:=am hB;have HHl:=am hH;have Hp:=am hp;clear hZ hZ8 hL8 hLH hZl hZ8l hL8l hLHl hL8o hC hB hH;go_enter Tryd.func32,Tryd.ntmps32
 go_upto_region 2 with (first
  | ((with_reducible refine gate_dst (N:=4) rfl ?_);refine box_event ?hg (N:=4) ?hd (cs:=LH.toArray) (t:=62) ?hr ?_;(case hd=>rfl);(case hg=>rfl);(case hr=>first | (go_simp;done) | (go_simp;rfl));intro g4 hg_ w1 hbox_ hb_;have G4:=am hg_;have R4:=am (rangeAt_box hbox_);have T4:=am (there_box hbox_);have B1:=am hb_;have LT4:=am (blk_lt hbox_);clear hg_ hbox_ hb_)
  | ((with_reducible refine gate_dst (N:=8) rfl ?_);refine box_event ?hg (N:=8) ?hd (cs:=Z8.toArray) (t:=62) ?hr ?_;(case hd=>rfl);(case hg=>rfl);(case hr=>first | (simp [execOp,Instr.alloc,HAL8.out,newVar,newRow,go_sem];done) | (simp [execOp,Instr.alloc,HAL8.out,newVar,newRow,go_sem];rfl));intro g8 hg_ w2 hbox_ hb_;have G8:=am hg_;have T8:=am (there_box hbox_);have B2:=am hb_;have LT8:=am (blk_lt hbox_);clear hg_ hbox_ hb_)
  | ((with_reducible refine gate_dst (N:=9) rfl ?_);refine box_event ?hg (N:=9) ?hd (cs:=Z.toArray) (t:=91) ?hr ?_;(case hd=>rfl);(case hg=>rfl);(case hr=>first | (simp [execOp,Instr.alloc,HAL.out,newVar,newRow,go_sem];done) | (simp [execOp,Instr.alloc,HAL.out,newVar,newRow,go_sem];rfl));intro g9 hg_ w3 hbox_ hb_;have G9:=am hg_;have R9:=am (rangeAt_box hbox_);have T9:=am (there_box hbox_);have B3:=am hb_;have LT9:=am (blk_lt hbox_);clear hg_ hbox_ hb_))
 have a9 : Arr w3 g9 (mTo p 0 0):=⟨by rw [mTo_zero,← HZ.out];exact R9.out,by rw [mTo_length];have:=T9.out;rw [HZl.out] at this;exact this⟩;have A9:=am a9;have B03:=am (below_step (below_step B1.out B2.out) B3.out);have C3:=am (Kd.C_below HC.out B03.out);have N9 : Aside0 (∀ ad,A = some ad → 0 < p.length → ad.block ≠ g9):=⟨fun ad e _=>by have:=HLT.out ad e;have:=G9.out;have:=B1.out.size;have:=B2.out.size;omega⟩;have G9n : Aside0 (w.heap.size ≤ g9):=⟨by have:=G9.out;have:=B1.out.size;have:=B2.out.size;omega⟩;clear a9
 go_wp2
 go_loopw [10] (fun i wr=>∃ x : Int,i = .int .i64 x ∧ (0 ≤ x ∧ x ≤ 16) ∧ Aside0 (Arr wr g9 (mTo p x.toNat 0)) ∧ Aside0 (w3.grownBy wr (some g9)))
  (fun i _=>16 - (intOf i).toNat)
 case atStart=>exact ⟨0,rfl,⟨by omega,by omega⟩,A9,⟨World.grownBy.refl _ _⟩⟩
 case round=>
 obtain ⟨x,rfl,⟨hx0,hx1⟩,HV,HG⟩:=hrel
 by_cases hx : x < 16
 ·have d0 : decide (x < 16) = true:=decide_eq_true hx
  have xw : wrap64 (x + 1) = x + 1:=by unfold wrap64;omega
  obtain ⟨wA,hwA⟩ : ∃ wA,wA = wr:=⟨_,rfl⟩;subst hwA
  go_wp2
  go_loopw [11] (fun i wr=>∃ y : Int,i = .int .i64 y ∧ (-1 ≤ y ∧ y ≤ 7) ∧ Aside0 (Arr wr g9 (mTo p x.toNat (7 - y).toNat)) ∧ Aside0 (w3.grownBy wr (some g9)))
   (fun i _=>(intOf i + 1).toNat)
  case atStart=>exact ⟨7,rfl,⟨by omega,by omega⟩,HV,HG⟩
  case round=>
   obtain ⟨y,rfl,⟨hy0,hy1⟩,HV2,HG2⟩:=hrel
   by_cases hy : y ≥ 0
   rotate_left
   ·have d1 : decide (y ≥ 0) = false:=decide_eq_false hy
    have hy9 : y = -1:=by omega
    subst hy9;have HA2 : Aside0 (Arr wr g9 (mTo p (x + 1).toNat 0)):=⟨by have:=HV2.out;rw [show (7 - (-1 : Int)).toNat = 8 from rfl,mTo_next] at this;rw [show (x + 1).toNat = x.toNat + 1 by omega];exact this⟩
    go_wp2
    exact ⟨⟨x + 1,by first | rfl | (rw [xw]) | (simp [xw]),⟨by omega,by omega⟩,HA2,HG2⟩,by simp [intOf];omega⟩
   have d1 : decide (y ≥ 0) = true:=decide_eq_true hy
   have yw : wrap64 (y - 1) = y - 1:=by unfold wrap64;omega
   obtain ⟨j,hj⟩ : ∃ j,j = (7 - y).toNat:=⟨_,rfl⟩
   have hjy : (7 - (y - 1)).toNat = j + 1:=by omega
   obtain ⟨q,hq⟩ : ∃ q : Int,q = 8 * x + y:=⟨_,rfl⟩
   have q0 : 0 ≤ q:=by omega
   have q1 : q < (p.length : Int):=by omega
   have q2 : q < 128:=by omega
   have qw1 : wrap64 (8 * x) = 8 * x:=by unfold wrap64;omega
   have qw2 : wrap64 (8 * x + y) = q:=by rw [← hq];unfold wrap64;omega
   obtain ⟨ad,rfl,s1⟩:=C_cell (C_grown C3.out HG2.out N9.out) q.toNat (by omega) rfl;obtain ⟨bv,hbv⟩ : ∃ b,b = p.getD q.toNat 0:=⟨_,rfl⟩;rw [← hbv] at s1
   have bb : 0 ≤ bv ∧ bv < 256:=by
    have hlt : q.toNat < p.length:=by omega
    rw [hbv,List.getD_eq_getElem?_getD,List.getElem?_eq_getElem hlt];exact HBy.out _ (List.getElem_mem hlt)
   have bw : IntKind.u64.wrap bv = bv:=by rw [IntKind.wrap_u64];omega
   obtain ⟨v_p,hv_p⟩ : ∃ v,v = wordP p x.toNat j:=⟨_,rfl⟩;have hm:=HV2.out;rw [← hj] at hm;have s0:=hm.cell x.toNat (by rw [mTo_length];omega);rw [mTo_get _ _ _ (by omega),← hv_p] at s0;have s2:=hm.frozen x.toNat (by rw [mTo_length];omega);obtain ⟨sv,hsv⟩ : ∃ v,shl .u64 v_p 8 = v:=⟨_,rfl⟩;have hsv2 : IntKind.u64.wrap (v_p * 256) = sv:=hsv;have n2_:=hm.drew.set x.toNat (by rw [mTo_length];omega) (Go.bits .or .u64 sv bv);rw [← hsv,hv_p,hbv,show q.toNat = 8 * x.toNat + (7 - j) by omega] at n2_;rw [show Go.bits .or .u64 (shl .u64 (wordP p x.toNat j) 8) (p.getD (8 * x.toNat + (7 - j)) 0) = wordP p x.toNat (j + 1) from rfl,mTo_set] at n2_;have N2:=am n2_;have HJ:=am hjy;have E2 : Aside0 (wordP p x.toNat (j + 1) = Go.bits .or .u64 sv bv):=⟨by rw [← hsv,hv_p,hbv,show q.toNat = 8 * x.toNat + (7 - j) by omega];rfl⟩;clear hm hj hbv hv_p hsv n2_ hq HV2 hjy
   go_upto_region 8 with (fail)
   refine start_ (n:=16) (S:=fun w'=>w'.cell? ⟨g9,x.toNat,none⟩ = some (.int .u64 v_p) ∧ w'.cell? (ad.add q.toNat) = some (.int .u8 bv) ∧ w'.frozen? ⟨g9,x.toNat,none⟩ = false) (ds:=[15]) (bl 16 0) (by kernel_rfl) rfl rfl ⟨s0,s1,s2⟩ (fun hHeld=>?_);refine with_tabW ref_block_r8.tab ref_block_r8.bits (fun HT_ HW_=>?_);refine p_ HT_ 0 (some 28) ref_block_r8.l0 ?_;refine p_ HT_ 1 (some 29) ref_block_r8.l1 ?_;refine p_ HT_ 2 (some 30) ref_block_r8.l2 ?_;refine tk HT_ HW_ hHeld 3 (some 31) ref_block_r8.l3 (hr:=by intro w' hs_;obtain ⟨s0,s1,s2⟩:=hs_;go_simp;with_reducible rfl) (h:=?_);refine p_ HT_ 4 (some 32) ref_block_r8.l4 ?_;refine p_ HT_ 5 (some 33) ref_block_r8.l5 ?_;refine p_ HT_ 6 (some 34) ref_block_r8.l6 ?_;refine p_ HT_ 7 (some 35) ref_block_r8.l7 ?_;refine p_ HT_ 8 (some 36) ref_block_r8.l8 ?_;refine p_ HT_ 9 (some 37) ref_block_r8.l9 ?_;refine p_ HT_ 10 (some 38) ref_block_r8.l10 ?_;refine tk HT_ HW_ hHeld 11 (some 39) ref_block_r8.l11 (hr:=by intro w' hs_;obtain ⟨s0,s1,s2⟩:=hs_;go_simp;with_reducible rfl) (h:=?_);refine p_ HT_ 12 (some 40) ref_block_r8.l12 ?_;refine p_ HT_ 13 (some 41) ref_block_r8.l13 ?_;refine p_ HT_ 14 (some 42) ref_block_r8.l14 ?_;refine last_ (i:=15) (N:=none) ref_block_r8.l15 rfl rfl (one_of HT_.out (by kernel_rfl)) (by decide) (fun K hK=>?_);clear hHeld;refine skip_ (w1:=World.setCell wr.drew ⟨g9,x.toNat,none⟩ (.int .u64 (Go.bits .or .u64 sv bv))) (by rfl) rfl ?_ ?_
   ·go_simp
   refine hK.out _ _ ?_;clear hK K;refine done_ (done_of HT_.out (by kernel_rfl)) ?_;clear HT_ HW_;rw [← E2.out];have n1_:=grown_set (grown_drew HG2.out) x.toNat (.int .u64 (wordP p x.toNat (j + 1)));have n3_:=N2.out;generalize World.setCell _ _ _ = wn at n1_ n3_ ⊢;have HA2:=am n3_;have HG3:=am n1_;clear n1_ n3_ s0 s1 s2 N2
   go_wp2
   exact ⟨⟨y - 1,by first | rfl | (rw [yw]) | (simp [yw]),⟨by omega,by omega⟩,by rw [HJ.out];exact HA2,HG3⟩,by simp [intOf];omega⟩
 have d0 : decide (x < 16) = false:=decide_eq_false hx
 have hx9 : x = 16:=by omega
 subst hx9;obtain ⟨M,hM⟩ : ∃ M,M = wordsR p:=⟨_,rfl⟩;have hm:=HV.out;rw [show (16 : Int).toNat = 16 from rfl,mTo_all,← hM] at hm;have A9f:=am hm;have HM:=am hM;have HMl : Aside0 (M.length = 16):=⟨by rw [hM];simp [wordsR]⟩;have LT9f:=am (hm.lt (by rw [HMl.out];decide));obtain ⟨wA,hwA⟩ : ∃ wA,wA = wr:=⟨_,rfl⟩;subst hwA;have R4a:=am (rangeAt_block R4.out (((below_step B2.out B3.out).block g4 LT4.out)))
 have ne49 : g4 ≠ g9:=by have:=G9.out;have:=LT4.out;have:=B2.out.size;omega
 have ne89 : g8 ≠ g9:=by have:=G9.out;have:=LT8.out;omega
 have ne48 : g4 ≠ g8:=by have:=G8.out;have:=LT4.out;omega
 have LT4a : g4 < w3.heap.size:=Nat.lt_of_lt_of_le LT4.out (below_step B2.out B3.out).size;have LT8a : g8 < w3.heap.size:=Nat.lt_of_lt_of_le LT8.out B3.out.size
 have a4 : Arr w3 g4 H:=by
  refine ⟨by rw [← HLH.out];exact R4a.out,?_⟩;have:=there_of_below T4.out (below_step B2.out B3.out) LT4.out;rwa [HLHl.out,← HHl.out] at this
 have A4:=am (a4.grown (by rw [HHl.out];decide) HG.out (by simpa using ne49));have T8a:=am (there_of_block (there_of_below T8.out B3.out LT8.out) (HG.out.block g8 LT8a (by simpa using ne89)));have G0:=am (B03.out.grown HG.out B03.out.size (fun j hj=>by cases hj;exact G9n.out));have LT4f:=am (Nat.lt_of_lt_of_le LT4a HG.out.size);have LT8f:=am (Nat.lt_of_lt_of_le LT8a HG.out.size);have NE48:=am ne48;have G4n : Aside0 (w.heap.size ≤ g4):=⟨by have:=G4.out;omega⟩;have G8n : Aside0 (w.heap.size ≤ g8):=⟨by have:=G8.out;have:=B1.out.size;omega⟩;clear hm hM HV HG hx hx0 hx1 a4 ne49 ne89 ne48 LT4a LT8a
 go_upto_region 11 with (first
  | ((with_reducible refine gate_dst (N:=12) rfl ?_);refine box_event ?hg (N:=12) ?hd (cs:=Z.toArray) (t:=91) ?hr ?_;(case hd=>rfl);(case hg=>rfl);(case hr=>first | (simp [execOp,Instr.alloc,HAL.out,newVar,newRow,go_sem];done) | (simp [execOp,Instr.alloc,HAL.out,newVar,newRow,go_sem];rfl));intro g12 hg_ w4 hbox_ hb_;have G12:=am hg_;have R12:=am (rangeAt_box hbox_);have T12:=am (there_box hbox_);have B4:=am hb_;have LT12:=am (blk_lt hbox_);clear hg_ hbox_ hb_)
  | (go_at_call 31;with_reducible refine (HBE.out _).mono ?_;rintro e w5 ⟨rfl,hb_⟩;have B5:=am hb_;clear hb_)
  | ((with_reducible refine gate_dst (N:=13) rfl ?_);refine box_event ?hg (N:=13) ?hd (cs:=Z8.toArray) (t:=62) ?hr ?_;(case hd=>rfl);(case hg=>rfl);(case hr=>first | (simp [execOp,Instr.alloc,HAL8.out,newVar,newRow,go_sem];done) | (simp [execOp,Instr.alloc,HAL8.out,newVar,newRow,go_sem];rfl));intro g13 hg_ w6 hbox_ hb_;have G13:=am hg_;have T13:=am (there_box hbox_);have B6:=am hb_;have LT13:=am (blk_lt hbox_);clear hg_ hbox_ hb_)
  | ((with_reducible refine gate_store (t:=62) (p:=13) rfl ?_);refine wpList_store_mid rfl 62 _ _ rfl g13 0 L8.toArray rfl rfl (by rw [List.size_toArray,HL8l.out,← HZ8l.out];exact T13.out) (by rw [List.size_toArray,HL8l.out];exact size_of info_a8) (all_oneCell_toArray HL8o.out) ?_))
 have n0_:=World.rangeAt_setCells_same w6 g13 0 L8 (by rw [HL8l.out,← HZ8l.out];exact T13.out);have n1_:=below_setCells g13 (by have:=G13.out;have:=B5.out.size;omega) L8 0 w6 (below_step B5.out B6.out);have n2_ : g13 < (w6.setCells g13 0 L8).heap.size:=Nat.lt_of_lt_of_le LT13.out (below_setCells (B:=0) g13 (Nat.zero_le _) L8 0 w6 (Below.refl 0 w6)).size;generalize World.setCells _ _ _ _ = w7 at n0_ n1_ n2_ ⊢;have R13:=am n0_;have B7:=am n1_;have LT13':=am n2_;clear n0_ n1_ n2_;have B47:=am (below_step B4.out B7.out);have A4b:=am (A4.out.below B47.out LT4f.out);have A9b:=am (A9f.out.below B47.out LT9f.out);have T8b:=am (there_of_below T8a.out B47.out LT8f.out);have G1b:=am (below_step G0.out B47.out);have a12 : Arr w4 g12 (vTo H 0):=⟨by rw [vTo_zero,← HZ.out];exact R12.out,by rw [vTo_length];have:=T12.out;rw [HZl.out] at this;exact this⟩;have A12:=am (a12.below B7.out LT12.out)
 have ne1 : g12 ≠ g4:=by have:=G12.out;have:=LT4f.out;omega
 have ne2 : g12 ≠ g9:=by have:=G12.out;have:=LT9f.out;omega
 have ne3 : g12 ≠ g8:=by have:=G12.out;have:=LT8f.out;omega
 have ne4 : g13 ≠ g12:=by have:=G13.out;have:=B5.out.size;have:=LT12.out;omega
 have N1:=am ne1;have N2:=am ne2;have N3:=am ne3;have N4:=am ne4;have LT12b:=am (A12.out.lt (by rw [vTo_length];decide));have LT4b:=am (A4b.out.lt (by rw [HHl.out];decide));have LT9b:=am (A9b.out.lt (by rw [HMl.out];decide));have LT8b : Aside0 (g8 < w7.heap.size):=⟨Nat.lt_of_lt_of_le LT8f.out B47.out.size⟩;have G12n : Aside0 (w.heap.size ≤ g12):=⟨by have:=G12.out;have:=G0.out.size;omega⟩;clear a12 ne1 ne2 ne3 ne4
 go_wp2
 go_loopw [14] (fun i wr=>∃ x : Int,i = .int .i64 x ∧ (0 ≤ x ∧ x ≤ 8) ∧ Aside0 (Arr wr g12 (vTo H x.toNat)) ∧ Aside0 (w7.grownBy wr (some g12)))
  (fun i _=>8 - (intOf i).toNat)
 case atStart=>exact ⟨0,rfl,⟨by omega,by omega⟩,A12,⟨World.grownBy.refl _ _⟩⟩
 case round=>
 obtain ⟨x,rfl,⟨hx0,hx1⟩,HV,HG⟩:=hrel
 by_cases hx : x < 8
 ·have d0 : decide (x < 8) = true:=decide_eq_true hx
  have xw : wrap64 (x + 1) = x + 1:=by unfold wrap64;omega
  obtain ⟨y,hy⟩ : ∃ y,y = x + 8:=⟨_,rfl⟩
  have yw : wrap64 (x + 8) = y:=by rw [hy];unfold wrap64;omega
  have y0 : 0 ≤ y:=by omega
  have y1 : y < 16:=by omega
  have x16 : x < 16:=by omega
  have yn : y.toNat = x.toNat + 8:=by omega
  have yw2 : IntKind.i64.wrap (x + 8) = y:=by rw [hy];exact IntWalk.i64_in _ (by omega)
  have ne5 : g4 ≠ g12:=fun e=>N1.out e.symm;have ne6 : g13 ≠ g12:=N4.out;have ne7 : g12 ≠ g4:=N1.out;have ne8 : g12 ≠ g13:=fun e=>N4.out e.symm;obtain ⟨v_a,hv_a⟩ : ∃ v,v = H.getD x.toNat 0:=⟨_,rfl⟩;obtain ⟨v_b,hv_b⟩ : ∃ v,v = beginV.getD x.toNat 0:=⟨_,rfl⟩;have s0:=(A4b.out.grown (by rw [HHl.out];decide) HG.out (by simpa using ne5)).cell x.toNat (by rw [HHl.out];omega);rw [← hv_a] at s0
  have s1 : wr.cell? ⟨g13,x.toNat,none⟩ = some (.int .u64 v_b):=by
   have hb8 : beginV.length = 8:=rfl
   have:=rangeAt_block R13.out (HG.out.block g13 LT13'.out (by simpa using ne6)) x.toNat (.int .u64 v_b) (by
    rw [HL8.out,hv_b,List.getElem?_map,List.getElem?_eq_getElem (by omega),List.getD_eq_getElem?_getD,List.getElem?_eq_getElem (by omega)];rfl)
   rwa [Nat.zero_add] at this
  have s2:=HV.out.frozen x.toNat (by rw [vTo_length];omega);have s3:=HV.out.frozen y.toNat (by rw [vTo_length];omega);obtain ⟨u_x,hu_x⟩ : ∃ v,v = (vTo H x.toNat).getD x.toNat 0:=⟨_,rfl⟩;obtain ⟨u_y,hu_y⟩ : ∃ v,v = (vTo H x.toNat).getD y.toNat 0:=⟨_,rfl⟩;have s4:=HV.out.cell x.toNat (by rw [vTo_length];omega);rw [← hu_x] at s4;have s5:=HV.out.cell y.toNat (by rw [vTo_length];omega);rw [← hu_y] at s5
  have nxy : x.toNat ≠ y.toNat:=by omega
  have s6 : (wr.setCell ⟨g12,x.toNat,none⟩ (.int .u64 v_a)).cell? ⟨g12,y.toNat,none⟩ = some (.int .u64 u_y):=by
   rw [World.cell?_setCell_other wr _ _ _ (by intro q;have:=congrArg (fun a : Addr=>a.off) q;simp at this;omega)];exact s5
  have s7 : (wr.setCell ⟨g12,x.toNat,none⟩ (.int .u64 v_a)).drew.cell? ⟨g12,y.toNat,none⟩ = some (.int .u64 u_y):=s6;have s8 : (wr.drew.setCell ⟨g12,x.toNat,none⟩ (.int .u64 v_a)).cell? ⟨g12,y.toNat,none⟩ = some (.int .u64 u_y):=s6;clear hu_x hu_y;have n0_:=((HV.out.set x.toNat (by rw [vTo_length];omega) v_a).set y.toNat (by rw [List.length_set,vTo_length];omega) v_b).drew;rw [hv_a,hv_b,yn,vTo_set H x.toNat (by omega),← hv_a,← hv_b,← yn] at n0_;have n1_:=grown_drew (grown_set (grown_set HG.out x.toNat (.int .u64 v_a)) y.toNat (.int .u64 v_b));have N0:=am n0_;have NG:=am n1_;clear hy yn hv_a hv_b n0_ n1_ HV HG
  go_upto_region 14 with (fail)
  go_region_held3 (fun w'=>w'.cell? ⟨g4,x.toNat,none⟩ = some (.int .u64 v_a) ∧ w'.cell? ⟨g13,x.toNat,none⟩ = some (.int .u64 v_b) ∧ w'.frozen? ⟨g12,x.toNat,none⟩ = false ∧ w'.frozen? ⟨g12,y.toNat,none⟩ = false) (go_keep) (fail)
  have n0_:=N0.out;have n1_:=NG.out;generalize World.drew _ = wn at n0_ n1_ ⊢;have HA2:=am n0_;have HG2:=am n1_;clear n0_ n1_ N0 NG s0 s1 s2 s3 s4 s5 s6 s7 s8
  go_wp2
  exact ⟨⟨x + 1,by first | rfl | (rw [xw]) | (simp [xw]),⟨by omega,by omega⟩,by rw [show (x + 1).toNat = x.toNat + 1 by omega];exact HA2,HG2⟩,by simp [intOf];omega⟩
 have d0 : decide (x < 8) = false:=decide_eq_false hx
 have hx9 : x = 8:=by omega
 subst hx9;obtain ⟨V0,hV0⟩ : ∃ V,V = H ++ beginV:=⟨_,rfl⟩;have hv:=HV.out;rw [show (8 : Int).toNat = 8 from rfl,vTo_all H HHl.out,← hV0] at hv;have HV0:=am hV0;have HV0l : Aside0 (V0.length = 16):=⟨by rw [hV0,List.length_append,HHl.out];rfl⟩;have A12c:=am hv;have K12:=am HG.out;obtain ⟨wB,hwB⟩ : ∃ wB,wB = wr:=⟨_,rfl⟩;subst hwB;obtain ⟨v_p,hv_p⟩ : ∃ v,v = V0.getD 12 0:=⟨_,rfl⟩;have s0:=hv.cell 12 (by rw [HV0l.out];decide);have s1:=hv.frozen 12 (by rw [HV0l.out];decide);rw [← hv_p] at s0;obtain ⟨cw,hcw⟩ : ∃ c,IntKind.u64.wrap cnt = c:=⟨_,rfl⟩;have Hcw:=am hcw;have Hv_p:=am hv_p;clear hv_p hv hV0 HV HG hx hx0 hx1
 go_upto_region 16 with (fail)
 have n0_:=A12c.out.set 12 (by rw [HV0l.out];decide) (Go.bits .xor .u64 v_p cw);have n1_:=grown_set K12.out 12 (.int .u64 (Go.bits .xor .u64 v_p cw));generalize World.setCell _ _ _ = w11 at n0_ n1_ ⊢;obtain ⟨V1,hV1⟩ : ∃ V,V = V0.set 12 (Go.bits .xor .u64 v_p cw):=⟨_,rfl⟩;rw [← hV1] at n0_;have HV1:=am hV1;have HV1l : Aside0 (V1.length = 16):=⟨by rw [hV1,List.length_set];exact HV0l.out⟩;have A11:=am n0_;have K11:=am n1_;clear n0_ n1_ hV1 s0 s1 hcw;obtain ⟨v_e,hv_e⟩ : ∃ v,v = V1.getD 14 0:=⟨_,rfl⟩;have s0:=A11.out.cell 14 (by rw [HV1l.out];decide);have s1:=A11.out.frozen 14 (by rw [HV1l.out];decide);rw [← hv_e] at s0;have Hv_e:=am hv_e;clear hv_e;obtain ⟨w12,V2,hw12,hV2⟩ : ∃ (w12 : World) (V2 : List Int),(w12 = if last then w11.setCell ⟨g12,14,none⟩ (.int .u64 (notU v_e)) else w11) ∧ V2 = if last then V1.set 14 (notU v_e) else V1:=⟨_,_,rfl,rfl⟩
 have a12 : Arr w12 g12 V2:=by
  rw [hw12,hV2];cases last
  ·exact A11.out
  ·exact A11.out.set 14 (by rw [HV1l.out];decide) _
 have k12 : w7.grownBy w12 (some g12):=by
  rw [hw12];cases last
  ·exact K11.out
  ·exact grown_set K11.out 14 _
 have v12 : V2 = vInitR H (IntKind.u64.wrap cnt) last:=by
  rw [hV2,Hv_e.out,HV1.out,Hv_p.out,HV0.out,← Hcw.out]
  rfl
 have A12d:=am a12;have K12d:=am k12;have HV2:=am v12;have HW12:=am hw12;have HV2l : Aside0 (V2.length = 16):=⟨by rw [hV2];cases last <;> simp [HV1l.out]⟩;have A4d:=am (A4b.out.grown (by rw [HHl.out];decide) k12 (by have:=N1.out;simpa using this.symm));have A9d:=am (A9b.out.grown (by rw [HMl.out];decide) k12 (by have:=N2.out;simpa using this.symm));have T8d:=am (there_of_block T8b.out (k12.block g8 LT8b.out (by have:=N3.out;simpa using this.symm)));have G1d:=am (G1b.out.grown k12 G1b.out.size (fun j hj=>by cases hj;exact G12n.out));have LT4d:=am (A4d.out.lt (by rw [HHl.out];decide));have LT9d:=am (A9d.out.lt (by rw [HMl.out];decide));have LT8d : Aside0 (g8 < w12.heap.size):=⟨Nat.lt_of_lt_of_le LT8b.out k12.size⟩
 have HBL : Aside0 (∀ VF,VF = roundsR M (List.range 12) V2 → outR VF (List.range 8) H = blockR H p cnt last):=⟨fun VF h=>by
  rw [h,HV2.out,HM.out]
  unfold blockR
  rfl⟩
 clear a12 k12 v12 hw12 hV2;cases last
 all_goals (
  go_upto_region 18 with (fail)
  first
   | (rw [← show w12 = w11.setCell ⟨g12,14,none⟩ (.int .u64 (Go.bits .xor .u64 (if IntKind.u64.signed = true then -1 else IntKind.u64.max) v_e)) from HW12.out])
   | (rw [← show w12 = w11 from HW12.out])
  clear s0 s1;obtain ⟨VF,hVF⟩ : ∃ V,V = roundsR M (List.range 12) V2:=⟨_,rfl⟩;have HVF:=am hVF;have HVFl : Aside0 (VF.length = 16):=⟨by rw [hVF,roundsR_length];exact HV2l.out⟩;clear hVF
  go_wp2
  go_loopw [15] (fun i wr=>∃ x : Int,i = .int .i64 x ∧ (0 ≤ x ∧ x ≤ 12) ∧ Aside0 (∃ V,V.length = 16 ∧ Arr wr g12 V ∧ roundsR M (List.range' x.toNat (12 - x.toNat)) V = VF) ∧ Aside0 (w12.grownBy wr (some g12)))
   (fun i _=>12 - (intOf i).toNat)
  case atStart=>exact ⟨0,rfl,⟨by omega,by omega⟩,⟨V2,HV2l.out,A12d.out,by rw [HVF.out,List.range_eq_range'];rfl⟩,⟨World.grownBy.refl _ _⟩⟩
  case round=>
  obtain ⟨x,rfl,⟨hx0,hx1⟩,HV,HG⟩:=hrel;obtain ⟨V,hVl,hV,hR⟩:=HV.out
  by_cases hlt : x < 12
  ·have d0 : decide (x < 12) = true:=decide_eq_true hlt
   have xw : wrap64 (x + 1) = x + 1:=by unfold wrap64;omega
   obtain ⟨j,hj⟩ : ∃ j,j = x.toNat % 10:=⟨_,rfl⟩
   have hj10 : j < 10:=by omega
   have hor:=ref_order_is ⟨x.toNat,by omega⟩;rw [show ((⟨x.toNat,by omega⟩ : Fin 12).val : Int) = x from Int.toNat_of_nonneg hx0,show (⟨x.toNat,by omega⟩ : Fin 12).val % 10 = j from hj.symm] at hor;have HOR:=am hor;have HVA:=am hV;have HVl:=am hVl;have HR:=am hR;have HJ:=am hj;clear hor hV hVl hR hj HV
   go_upto_region 22 with (go_at_call 53;with_reducible refine (althingref2_order.calls _ _ _ HOR.out).mono ?_;rintro e wo ⟨rfl,hd_⟩;have HVo : Aside0 (Arr wo g12 V):=⟨by obtain ⟨m_,rfl⟩:=hd_;exact HVA.out.drewN m_⟩;have HGo : Aside0 (w12.grownBy wo (some g12)):=⟨by obtain ⟨m_,rfl⟩:=hd_;exact grown_drewN HG.out m_⟩;clear hd_)
   obtain ⟨S,hS⟩ : ∃ S,S = rowOf j:=⟨_,rfl⟩;rw [← hS];have HS:=am hS;clear hS;obtain ⟨P,hP⟩ : ∃ P,P = permOf j:=⟨_,rfl⟩;have HP:=am hP;clear hP HVA HG;obtain ⟨VA,hVA⟩ : ∃ V',V' = runA M P (List.range 4) V:=⟨_,rfl⟩;have HVA:=am hVA;have HVAl : Aside0 (VA.length = 16):=⟨by rw [hVA,runA_length];exact HVl.out⟩;clear hVA
   go_wp2
   go_loopw [17] (fun i wr=>∃ k : Int,i = .int .i64 k ∧ (0 ≤ k ∧ k ≤ 4) ∧ Aside0 (∃ V',V'.length = 16 ∧ Arr wr g12 V' ∧ runA M P (List.range' k.toNat (4 - k.toNat)) V' = VA) ∧ Aside0 (w12.grownBy wr (some g12)))
    (fun i _=>4 - (intOf i).toNat)
   case atStart=>exact ⟨0,rfl,⟨by omega,by omega⟩,⟨V,HVl.out,HVo.out,by rw [HVA.out,List.range_eq_range'];rfl⟩,HGo⟩
   case round=>
   obtain ⟨k,rfl,⟨hk0,hk1⟩,HV2',HG2⟩:=hrel;obtain ⟨V',hVl',hV',hR'⟩:=HV2'.out
   by_cases hk : k < 4
   ·have d1 : decide (k < 4) = true:=decide_eq_true hk
    have kw : wrap64 (k + 1) = k + 1:=by unfold wrap64;omega
    obtain ⟨ka,hka⟩ : ∃ v,wrap64 (k + 4) = v:=⟨_,rfl⟩;obtain ⟨kb,hkb⟩ : ∃ v,wrap64 (k + 8) = v:=⟨_,rfl⟩;obtain ⟨kc,hkc⟩ : ∃ v,wrap64 (k + 12) = v:=⟨_,rfl⟩;obtain ⟨e1,he1⟩ : ∃ v,wrap64 (2 * k) = v:=⟨_,rfl⟩
    have ka' : ka = k + 4:=by rw [← hka];unfold wrap64;omega
    have kb' : kb = k + 8:=by rw [← hkb];unfold wrap64;omega
    have kc' : kc = k + 12:=by rw [← hkc];unfold wrap64;omega
    have e1' : e1 = 2 * k:=by rw [← he1];unfold wrap64;omega
    obtain ⟨e2,he2⟩ : ∃ v,wrap64 (e1 + 1) = v:=⟨_,rfl⟩
    have e2' : e2 = 2 * k + 1:=by rw [← he2];unfold wrap64;omega
    obtain ⟨b1,p1,hx1,hd1,hp0,hp1,hpn⟩:=ref_word j hj10 e1 (by omega) (by omega);obtain ⟨b2,p2,hx2,hd2,hq0,hq1,hqn⟩:=ref_word j hj10 e2 (by omega) (by omega);rw [← HS.out] at hx1 hx2;have hm:=A9d.out.grown (by rw [HMl.out];decide) HG2.out (by have:=N2.out;simpa using this.symm);obtain ⟨m1,hm1⟩ : ∃ v,v = M.getD p1.toNat 0:=⟨_,rfl⟩;obtain ⟨m2,hm2⟩ : ∃ v,v = M.getD p2.toNat 0:=⟨_,rfl⟩;have s0:=hm.cell p1.toNat (by rw [HMl.out];omega);have s1:=hm.cell p2.toNat (by rw [HMl.out];omega);rw [← hm1] at s0;rw [← hm2] at s1;have HD1:=am hd1;have HD2:=am hd2;have HA':=am hV';have HMX:=am (fun w hA=>ref_mix_i g12 V' k (wrap64 (k + 4)) (wrap64 (k + 8)) (wrap64 (k + 12)) m1 m2 w ⟨hk0,by omega⟩ (by rw [hka];omega) (by rw [hkb];omega) (by rw [hkc];omega) hVl' hA)
    have HE : Aside0 (ref_mix.f V' k.toNat (wrap64 (k + 4)).toNat (wrap64 (k + 8)).toNat (wrap64 (k + 12)).toNat m1 m2 = halfA M P V' k.toNat):=⟨by
     rw [hka,hkb,hkc,hm1,hm2,hpn,hqn,← HP.out,show ka.toNat = k.toNat + 4 by omega,show kb.toNat = k.toNat + 8 by omega,show kc.toNat = k.toNat + 12 by omega,show e1.toNat = 2 * k.toNat by omega,show e2.toNat = 2 * k.toNat + 1 by omega]
     rfl⟩
    have HR':=am hR';have HVl':=am hVl';clear ka' kb' kc' e1' e2' hd1 hd2 hm hm1 hm2 hpn hqn hV' hR' hVl' HV2'
    go_upto_region 25 with (fail)
    refine start_ (n:=23) (S:=fun w'=>w'.cell? ⟨g9,p1.toNat,none⟩ = some (.int .u64 m1) ∧ w'.cell? ⟨g9,p2.toNat,none⟩ = some (.int .u64 m2)) (ds:=[22]) (bl 23 0) (by kernel_rfl) rfl rfl ⟨s0,s1⟩ (fun hHeld=>?_);refine with_tabW ref_block_r25.tab ref_block_r25.bits (fun HT_ HW_=>?_);refine p_ HT_ 0 (some 80) ref_block_r25.l0 ?_;refine p_ HT_ 1 (some 81) ref_block_r25.l1 ?_;refine p_ HT_ 2 (some 82) ref_block_r25.l2 ?_;refine p_ HT_ 3 (some 83) ref_block_r25.l3 ?_;refine p_ HT_ 4 (some 84) ref_block_r25.l4 ?_;refine p_ HT_ 5 (some 85) ref_block_r25.l5 ?_;refine p_ HT_ 6 (some 86) ref_block_r25.l6 ?_;refine p_ HT_ 7 (some 87) ref_block_r25.l7 ?_;refine p_ HT_ 8 (some 88) ref_block_r25.l8 ?_;refine p_ HT_ 9 (some 89) ref_block_r25.l9 ?_;refine p_ HT_ 10 (some 90) ref_block_r25.l10 ?_;refine p_ HT_ 14 (some 94) ref_block_r25.l11 ?_;refine p_ HT_ 15 (some 95) ref_block_r25.l12 ?_;refine p_ HT_ 16 (some 96) ref_block_r25.l13 ?_;refine p_ HT_ 17 (some 97) ref_block_r25.l14 ?_;refine p_ HT_ 18 (some 98) ref_block_r25.l15 ?_;refine o_ HT_ 11 (some 91) ref_block_r25.l16 fun K hK=>?_;refine gs Tryd.func55 #[.int .u8 b1] ?_;refine (althingref2_digit.calls _ _ _ HD1.out).mono ?_;rintro e w9 ⟨rfl,⟨m_,rfl⟩⟩;refine ⟨_,rfl,?_⟩;refine hK.out _ _ hHeld (fun hHeld=>?_);clear hK K;refine nm (some 91) ?_;refine p_ HT_ 12 (some 92) ref_block_r25.l17 ?_;refine tk HT_ HW_ hHeld 13 (some 93) ref_block_r25.l18 (hr:=by intro w' hs_;obtain ⟨s0,s1⟩:=hs_;go_simp;with_reducible rfl) (h:=?_);refine o_ HT_ 19 (some 99) ref_block_r25.l19 fun K hK=>?_;refine gs Tryd.func55 #[.int .u8 b2] ?_;refine (althingref2_digit.calls _ _ _ HD2.out).mono ?_;rintro e w9 ⟨rfl,⟨m_,rfl⟩⟩;refine ⟨_,rfl,?_⟩;refine hK.out _ _ hHeld (fun hHeld=>?_);clear hK K;refine nm (some 99) ?_;refine p_ HT_ 20 (some 100) ref_block_r25.l20 ?_;refine tk HT_ HW_ hHeld 21 (some 101) ref_block_r25.l21 (hr:=by intro w' hs_;obtain ⟨s0,s1⟩:=hs_;go_simp;with_reducible rfl) (h:=?_);refine last_ (i:=22) (N:=some 102) ref_block_r25.l22 rfl rfl (one_of HT_.out (by kernel_rfl)) (by decide) (fun K hK=>?_);clear hHeld;refine gs Tryd.func54 #[.pointer (some ⟨g12,0,none⟩),.int .i64 k,.int .i64 (wrap64 (k + 4)),.int .i64 (wrap64 (k + 8)),.int .i64 (wrap64 (k + 12)),.int .u64 m1,.int .u64 m2] ?_;refine (HMX.out _ ((HA'.out.drew.drewN _).drewN _)).mono ?_;rintro e wn ⟨rfl,ha_,hg_⟩;refine ⟨_,rfl,?_⟩;refine hK.out _ _ ?_;clear hK K;refine nm (some 102) ?_;refine done_ (done_of HT_.out (by kernel_rfl)) ?_;clear HT_ HW_;rw [HE.out] at ha_;have HA2:=am ha_;have HG3:=am (grown_step (grown_drewN (grown_drewN (grown_drew HG2.out) _) _) hg_);clear ha_ hg_ s0 s1
    go_wp2
    exact ⟨⟨k + 1,by first | rfl | (rw [kw]) | (simp [kw]),⟨by omega,by omega⟩,⟨_,(ref_mix_length _ _ _ _ _ _ _).trans HVl'.out,HA2.out,by rw [show (k + 1).toNat = k.toNat + 1 by omega];exact runA_rest _ _ _ _ k.toNat (by omega) HR'.out⟩,HG3⟩,by simp [intOf];omega⟩
   have d1 : decide (k < 4) = false:=decide_eq_false hk
   have hk9 : k = 4:=by omega
   subst hk9;have hve : V' = VA:=hR';subst hve;have HA3:=am hV';obtain ⟨wC,hwC⟩ : ∃ wC,wC = wr:=⟨_,rfl⟩;subst hwC;have HG3:=HG2;clear hV' hVl' hR' HV2' HG2 hk hk0 hk1;obtain ⟨VB,hVB⟩ : ∃ VB,VB = runB M P (List.range 4) V':=⟨_,rfl⟩;have HVB:=am hVB;clear hVB
   go_wp2
   go_loopw [18] (fun i wr=>∃ k : Int,i = .int .i64 k ∧ (0 ≤ k ∧ k ≤ 4) ∧ Aside0 (∃ Vn,Vn.length = 16 ∧ Arr wr g12 Vn ∧ runB M P (List.range' k.toNat (4 - k.toNat)) Vn = VB) ∧ Aside0 (w12.grownBy wr (some g12)))
    (fun i _=>4 - (intOf i).toNat)
   case atStart=>exact ⟨0,rfl,⟨by omega,by omega⟩,⟨V',HVAl.out,HA3.out,by rw [HVB.out,List.range_eq_range'];rfl⟩,HG3⟩
   case round=>
   obtain ⟨k,rfl,⟨hk0,hk1⟩,HV2',HG2⟩:=hrel;obtain ⟨Vn,hVl',hV',hR'⟩:=HV2'.out;have HA':=am hV';have HVn:=am hVl';have HR':=am hR';have HM2:=am (A9d.out.grown (by rw [HMl.out];decide) HG2.out (by have:=N2.out;simpa using this.symm))
   have w_0 : wrap64 0 = 0:=by unfold wrap64;omega
   have w_1 : wrap64 1 = 1:=by unfold wrap64;omega
   have w_2 : wrap64 2 = 2:=by unfold wrap64;omega
   have w_3 : wrap64 3 = 3:=by unfold wrap64;omega
   have w_4 : wrap64 4 = 4:=by unfold wrap64;omega
   have w_5 : wrap64 5 = 5:=by unfold wrap64;omega
   have w_6 : wrap64 6 = 6:=by unfold wrap64;omega
   have w_7 : wrap64 7 = 7:=by unfold wrap64;omega
   have w_8 : wrap64 8 = 8:=by unfold wrap64;omega
   have w_9 : wrap64 9 = 9:=by unfold wrap64;omega
   have w_10 : wrap64 10 = 10:=by unfold wrap64;omega
   have w_11 : wrap64 11 = 11:=by unfold wrap64;omega
   have w_12 : wrap64 12 = 12:=by unfold wrap64;omega
   have w_13 : wrap64 13 = 13:=by unfold wrap64;omega
   have w_14 : wrap64 14 = 14:=by unfold wrap64;omega
   have w_15 : wrap64 15 = 15:=by unfold wrap64;omega
   have w_16 : wrap64 16 = 16:=by unfold wrap64;omega
   have hk4 : k = 0 ∨ k = 1 ∨ k = 2 ∨ k = 3 ∨ k = 4:=by omega
   clear hk0 hk1 hV' hVl' hR' HV2'
   rcases hk4 with rfl | rfl | rfl | rfl | rfl
   rotate_right
   ·have hve : Vn = VB:=HR'.out;subst hve
    have hrr : roundR M (permOf (x.toNat % 10)) V = Vn:=by
     rw [← HJ.out,← HP.out,HVB.out,HVA.out];rfl
    have hrest:=roundsR_rest M V VF x.toNat (by omega) HR.out;rw [hrr] at hrest;have HRS:=am hrest;clear hrr hrest
    go_wp2
    exact ⟨⟨x + 1,by first | rfl | (rw [xw]) | (simp [xw]),⟨by omega,by omega⟩,⟨Vn,HVn.out,HA'.out,by rw [show (x + 1).toNat = x.toNat + 1 by omega];exact HRS.out⟩,HG2⟩,by simp [intOf];omega⟩
   ·obtain ⟨b1,p1,hx1,hd1,hp0,hp1,hpn⟩:=ref_word j hj10 8 (by decide) (by decide);obtain ⟨b2,p2,hx2,hd2,hq0,hq1,hqn⟩:=ref_word j hj10 9 (by decide) (by decide);rw [← HS.out] at hx1 hx2;obtain ⟨m1,hm1⟩ : ∃ v,v = M.getD p1.toNat 0:=⟨_,rfl⟩;obtain ⟨m2,hm2⟩ : ∃ v,v = M.getD p2.toNat 0:=⟨_,rfl⟩;have s0:=HM2.out.cell p1.toNat (by rw [HMl.out];omega);have s1:=HM2.out.cell p2.toNat (by rw [HMl.out];omega);rw [← hm1] at s0;rw [← hm2] at s1;have HD1:=am hd1;have HD2:=am hd2;have HMX:=am (fun w hA=>ref_mix_i g12 Vn 0 (wrap64 5) (wrap64 10) (wrap64 15) m1 m2 w (by decide) (by rw [w_5];decide) (by rw [w_10];decide) (by rw [w_15];decide) HVn.out hA);have HE : Aside0 (ref_mix.f Vn (0 : Int).toNat (wrap64 5).toNat (wrap64 10).toNat (wrap64 15).toNat m1 m2 = halfB M P Vn 0):=⟨by rw [w_5,w_10,w_15,hm1,hm2,hpn,hqn,← HP.out];rfl⟩;clear hd1 hd2 hm1 hm2 hpn hqn
    go_upto_region 29 with (fail)
    refine start_ (n:=30) (S:=fun w'=>w'.cell? ⟨g9,p1.toNat,none⟩ = some (.int .u64 m1) ∧ w'.cell? ⟨g9,p2.toNat,none⟩ = some (.int .u64 m2)) (ds:=[29]) (bl 30 0) (by kernel_rfl) rfl rfl ⟨s0,s1⟩ (fun hHeld=>?_);refine with_tabW ref_block_r29.tab ref_block_r29.bits (fun HT_ HW_=>?_);refine p_ HT_ 0 (some 107) ref_block_r29.l0 ?_;refine p_ HT_ 1 (some 108) ref_block_r29.l1 ?_;refine p_ HT_ 2 (some 109) ref_block_r29.l2 ?_;refine p_ HT_ 3 (some 110) ref_block_r29.l3 ?_;refine p_ HT_ 4 (some 111) ref_block_r29.l4 ?_;refine p_ HT_ 5 (some 112) ref_block_r29.l5 ?_;refine p_ HT_ 6 (some 113) ref_block_r29.l6 ?_;refine p_ HT_ 7 (some 114) ref_block_r29.l7 ?_;refine p_ HT_ 8 (some 115) ref_block_r29.l8 ?_;refine p_ HT_ 9 (some 116) ref_block_r29.l9 ?_;refine p_ HT_ 10 (some 117) ref_block_r29.l10 ?_;refine p_ HT_ 11 (some 118) ref_block_r29.l11 ?_;refine p_ HT_ 12 (some 119) ref_block_r29.l12 ?_;refine p_ HT_ 13 (some 120) ref_block_r29.l13 ?_;refine p_ HT_ 14 (some 121) ref_block_r29.l14 ?_;refine p_ HT_ 15 (some 122) ref_block_r29.l15 ?_;refine p_ HT_ 16 (some 123) ref_block_r29.l16 ?_;refine p_ HT_ 17 (some 124) ref_block_r29.l17 ?_;refine p_ HT_ 21 (some 128) ref_block_r29.l18 ?_;refine p_ HT_ 22 (some 129) ref_block_r29.l19 ?_;refine p_ HT_ 23 (some 130) ref_block_r29.l20 ?_;refine p_ HT_ 24 (some 131) ref_block_r29.l21 ?_;refine p_ HT_ 25 (some 132) ref_block_r29.l22 ?_;refine o_ HT_ 18 (some 125) ref_block_r29.l23 fun K hK=>?_;refine gs Tryd.func55 #[.int .u8 b1] ?_;refine (althingref2_digit.calls _ _ _ HD1.out).mono ?_;rintro e w9 ⟨rfl,⟨m_,rfl⟩⟩;refine ⟨_,rfl,?_⟩;refine hK.out _ _ hHeld (fun hHeld=>?_);clear hK K;refine nm (some 125) ?_;refine p_ HT_ 19 (some 126) ref_block_r29.l24 ?_;refine tk HT_ HW_ hHeld 20 (some 127) ref_block_r29.l25 (hr:=by intro w' hs_;obtain ⟨s0,s1⟩:=hs_;go_simp;with_reducible rfl) (h:=?_);refine o_ HT_ 26 (some 133) ref_block_r29.l26 fun K hK=>?_;refine gs Tryd.func55 #[.int .u8 b2] ?_;refine (althingref2_digit.calls _ _ _ HD2.out).mono ?_;rintro e w9 ⟨rfl,⟨m_,rfl⟩⟩;refine ⟨_,rfl,?_⟩;refine hK.out _ _ hHeld (fun hHeld=>?_);clear hK K;refine nm (some 133) ?_;refine p_ HT_ 27 (some 134) ref_block_r29.l27 ?_;refine tk HT_ HW_ hHeld 28 (some 135) ref_block_r29.l28 (hr:=by intro w' hs_;obtain ⟨s0,s1⟩:=hs_;go_simp;with_reducible rfl) (h:=?_);refine last_ (i:=29) (N:=some 136) ref_block_r29.l29 rfl rfl (one_of HT_.out (by kernel_rfl)) (by decide) (fun K hK=>?_);clear hHeld;refine gs Tryd.func54 #[.pointer (some ⟨g12,0,none⟩),.int .i64 0,.int .i64 (wrap64 5),.int .i64 (wrap64 10),.int .i64 (wrap64 15),.int .u64 m1,.int .u64 m2] ?_;refine (HMX.out _ ((HA'.out.drew.drewN _).drewN _)).mono ?_;rintro e wn ⟨rfl,ha_,hg_⟩;refine ⟨_,rfl,?_⟩;refine hK.out _ _ ?_;clear hK K;refine nm (some 136) ?_;refine done_ (done_of HT_.out (by kernel_rfl)) ?_;clear HT_ HW_;rw [HE.out] at ha_;have HA2:=am ha_;have HG3:=am (grown_step (grown_drewN (grown_drewN (grown_drew HG2.out) _) _) hg_);clear ha_ hg_ s0 s1
    go_wp2
    exact ⟨⟨1,rfl,⟨by decide,by decide⟩,⟨_,(ref_mix_length _ _ _ _ _ _ _).trans HVn.out,HA2.out,runB_rest _ _ _ _ 0 (by decide) HR'.out⟩,HG3⟩,by simp [intOf]⟩
   ·obtain ⟨b1,p1,hx1,hd1,hp0,hp1,hpn⟩:=ref_word j hj10 10 (by decide) (by decide);obtain ⟨b2,p2,hx2,hd2,hq0,hq1,hqn⟩:=ref_word j hj10 11 (by decide) (by decide);rw [← HS.out] at hx1 hx2;obtain ⟨m1,hm1⟩ : ∃ v,v = M.getD p1.toNat 0:=⟨_,rfl⟩;obtain ⟨m2,hm2⟩ : ∃ v,v = M.getD p2.toNat 0:=⟨_,rfl⟩;have s0:=HM2.out.cell p1.toNat (by rw [HMl.out];omega);have s1:=HM2.out.cell p2.toNat (by rw [HMl.out];omega);rw [← hm1] at s0;rw [← hm2] at s1;have HD1:=am hd1;have HD2:=am hd2;have HMX:=am (fun w hA=>ref_mix_i g12 Vn 1 (wrap64 6) (wrap64 11) (wrap64 12) m1 m2 w (by decide) (by rw [w_6];decide) (by rw [w_11];decide) (by rw [w_12];decide) HVn.out hA);have HE : Aside0 (ref_mix.f Vn (1 : Int).toNat (wrap64 6).toNat (wrap64 11).toNat (wrap64 12).toNat m1 m2 = halfB M P Vn 1):=⟨by rw [w_6,w_11,w_12,hm1,hm2,hpn,hqn,← HP.out];rfl⟩;clear hd1 hd2 hm1 hm2 hpn hqn
    go_upto_region 29 with (fail)
    refine start_ (n:=30) (S:=fun w'=>w'.cell? ⟨g9,p1.toNat,none⟩ = some (.int .u64 m1) ∧ w'.cell? ⟨g9,p2.toNat,none⟩ = some (.int .u64 m2)) (ds:=[29]) (bl 30 0) (by kernel_rfl) rfl rfl ⟨s0,s1⟩ (fun hHeld=>?_);refine with_tabW ref_block_r29.tab ref_block_r29.bits (fun HT_ HW_=>?_);refine p_ HT_ 0 (some 107) ref_block_r29.l0 ?_;refine p_ HT_ 1 (some 108) ref_block_r29.l1 ?_;refine p_ HT_ 2 (some 109) ref_block_r29.l2 ?_;refine p_ HT_ 3 (some 110) ref_block_r29.l3 ?_;refine p_ HT_ 4 (some 111) ref_block_r29.l4 ?_;refine p_ HT_ 5 (some 112) ref_block_r29.l5 ?_;refine p_ HT_ 6 (some 113) ref_block_r29.l6 ?_;refine p_ HT_ 7 (some 114) ref_block_r29.l7 ?_;refine p_ HT_ 8 (some 115) ref_block_r29.l8 ?_;refine p_ HT_ 9 (some 116) ref_block_r29.l9 ?_;refine p_ HT_ 10 (some 117) ref_block_r29.l10 ?_;refine p_ HT_ 11 (some 118) ref_block_r29.l11 ?_;refine p_ HT_ 12 (some 119) ref_block_r29.l12 ?_;refine p_ HT_ 13 (some 120) ref_block_r29.l13 ?_;refine p_ HT_ 14 (some 121) ref_block_r29.l14 ?_;refine p_ HT_ 15 (some 122) ref_block_r29.l15 ?_;refine p_ HT_ 16 (some 123) ref_block_r29.l16 ?_;refine p_ HT_ 17 (some 124) ref_block_r29.l17 ?_;refine p_ HT_ 21 (some 128) ref_block_r29.l18 ?_;refine p_ HT_ 22 (some 129) ref_block_r29.l19 ?_;refine p_ HT_ 23 (some 130) ref_block_r29.l20 ?_;refine p_ HT_ 24 (some 131) ref_block_r29.l21 ?_;refine p_ HT_ 25 (some 132) ref_block_r29.l22 ?_;refine o_ HT_ 18 (some 125) ref_block_r29.l23 fun K hK=>?_;refine gs Tryd.func55 #[.int .u8 b1] ?_;refine (althingref2_digit.calls _ _ _ HD1.out).mono ?_;rintro e w9 ⟨rfl,⟨m_,rfl⟩⟩;refine ⟨_,rfl,?_⟩;refine hK.out _ _ hHeld (fun hHeld=>?_);clear hK K;refine nm (some 125) ?_;refine p_ HT_ 19 (some 126) ref_block_r29.l24 ?_;refine tk HT_ HW_ hHeld 20 (some 127) ref_block_r29.l25 (hr:=by intro w' hs_;obtain ⟨s0,s1⟩:=hs_;go_simp;with_reducible rfl) (h:=?_);refine o_ HT_ 26 (some 133) ref_block_r29.l26 fun K hK=>?_;refine gs Tryd.func55 #[.int .u8 b2] ?_;refine (althingref2_digit.calls _ _ _ HD2.out).mono ?_;rintro e w9 ⟨rfl,⟨m_,rfl⟩⟩;refine ⟨_,rfl,?_⟩;refine hK.out _ _ hHeld (fun hHeld=>?_);clear hK K;refine nm (some 133) ?_;refine p_ HT_ 27 (some 134) ref_block_r29.l27 ?_;refine tk HT_ HW_ hHeld 28 (some 135) ref_block_r29.l28 (hr:=by intro w' hs_;obtain ⟨s0,s1⟩:=hs_;go_simp;with_reducible rfl) (h:=?_);refine last_ (i:=29) (N:=some 136) ref_block_r29.l29 rfl rfl (one_of HT_.out (by kernel_rfl)) (by decide) (fun K hK=>?_);clear hHeld;refine gs Tryd.func54 #[.pointer (some ⟨g12,0,none⟩),.int .i64 1,.int .i64 (wrap64 6),.int .i64 (wrap64 11),.int .i64 (wrap64 12),.int .u64 m1,.int .u64 m2] ?_;refine (HMX.out _ ((HA'.out.drew.drewN _).drewN _)).mono ?_;rintro e wn ⟨rfl,ha_,hg_⟩;refine ⟨_,rfl,?_⟩;refine hK.out _ _ ?_;clear hK K;refine nm (some 136) ?_;refine done_ (done_of HT_.out (by kernel_rfl)) ?_;clear HT_ HW_;rw [HE.out] at ha_;have HA2:=am ha_;have HG3:=am (grown_step (grown_drewN (grown_drewN (grown_drew HG2.out) _) _) hg_);clear ha_ hg_ s0 s1
    go_wp2
    exact ⟨⟨2,rfl,⟨by decide,by decide⟩,⟨_,(ref_mix_length _ _ _ _ _ _ _).trans HVn.out,HA2.out,runB_rest _ _ _ _ 1 (by decide) HR'.out⟩,HG3⟩,by simp [intOf]⟩
   ·obtain ⟨b1,p1,hx1,hd1,hp0,hp1,hpn⟩:=ref_word j hj10 12 (by decide) (by decide);obtain ⟨b2,p2,hx2,hd2,hq0,hq1,hqn⟩:=ref_word j hj10 13 (by decide) (by decide);rw [← HS.out] at hx1 hx2;obtain ⟨m1,hm1⟩ : ∃ v,v = M.getD p1.toNat 0:=⟨_,rfl⟩;obtain ⟨m2,hm2⟩ : ∃ v,v = M.getD p2.toNat 0:=⟨_,rfl⟩;have s0:=HM2.out.cell p1.toNat (by rw [HMl.out];omega);have s1:=HM2.out.cell p2.toNat (by rw [HMl.out];omega);rw [← hm1] at s0;rw [← hm2] at s1;have HD1:=am hd1;have HD2:=am hd2;have HMX:=am (fun w hA=>ref_mix_i g12 Vn 2 (wrap64 7) (wrap64 8) (wrap64 13) m1 m2 w (by decide) (by rw [w_7];decide) (by rw [w_8];decide) (by rw [w_13];decide) HVn.out hA);have HE : Aside0 (ref_mix.f Vn (2 : Int).toNat (wrap64 7).toNat (wrap64 8).toNat (wrap64 13).toNat m1 m2 = halfB M P Vn 2):=⟨by rw [w_7,w_8,w_13,hm1,hm2,hpn,hqn,← HP.out];rfl⟩;clear hd1 hd2 hm1 hm2 hpn hqn
    go_upto_region 29 with (fail)
    refine start_ (n:=30) (S:=fun w'=>w'.cell? ⟨g9,p1.toNat,none⟩ = some (.int .u64 m1) ∧ w'.cell? ⟨g9,p2.toNat,none⟩ = some (.int .u64 m2)) (ds:=[29]) (bl 30 0) (by kernel_rfl) rfl rfl ⟨s0,s1⟩ (fun hHeld=>?_);refine with_tabW ref_block_r29.tab ref_block_r29.bits (fun HT_ HW_=>?_);refine p_ HT_ 0 (some 107) ref_block_r29.l0 ?_;refine p_ HT_ 1 (some 108) ref_block_r29.l1 ?_;refine p_ HT_ 2 (some 109) ref_block_r29.l2 ?_;refine p_ HT_ 3 (some 110) ref_block_r29.l3 ?_;refine p_ HT_ 4 (some 111) ref_block_r29.l4 ?_;refine p_ HT_ 5 (some 112) ref_block_r29.l5 ?_;refine p_ HT_ 6 (some 113) ref_block_r29.l6 ?_;refine p_ HT_ 7 (some 114) ref_block_r29.l7 ?_;refine p_ HT_ 8 (some 115) ref_block_r29.l8 ?_;refine p_ HT_ 9 (some 116) ref_block_r29.l9 ?_;refine p_ HT_ 10 (some 117) ref_block_r29.l10 ?_;refine p_ HT_ 11 (some 118) ref_block_r29.l11 ?_;refine p_ HT_ 12 (some 119) ref_block_r29.l12 ?_;refine p_ HT_ 13 (some 120) ref_block_r29.l13 ?_;refine p_ HT_ 14 (some 121) ref_block_r29.l14 ?_;refine p_ HT_ 15 (some 122) ref_block_r29.l15 ?_;refine p_ HT_ 16 (some 123) ref_block_r29.l16 ?_;refine p_ HT_ 17 (some 124) ref_block_r29.l17 ?_;refine p_ HT_ 21 (some 128) ref_block_r29.l18 ?_;refine p_ HT_ 22 (some 129) ref_block_r29.l19 ?_;refine p_ HT_ 23 (some 130) ref_block_r29.l20 ?_;refine p_ HT_ 24 (some 131) ref_block_r29.l21 ?_;refine p_ HT_ 25 (some 132) ref_block_r29.l22 ?_;refine o_ HT_ 18 (some 125) ref_block_r29.l23 fun K hK=>?_;refine gs Tryd.func55 #[.int .u8 b1] ?_;refine (althingref2_digit.calls _ _ _ HD1.out).mono ?_;rintro e w9 ⟨rfl,⟨m_,rfl⟩⟩;refine ⟨_,rfl,?_⟩;refine hK.out _ _ hHeld (fun hHeld=>?_);clear hK K;refine nm (some 125) ?_;refine p_ HT_ 19 (some 126) ref_block_r29.l24 ?_;refine tk HT_ HW_ hHeld 20 (some 127) ref_block_r29.l25 (hr:=by intro w' hs_;obtain ⟨s0,s1⟩:=hs_;go_simp;with_reducible rfl) (h:=?_);refine o_ HT_ 26 (some 133) ref_block_r29.l26 fun K hK=>?_;refine gs Tryd.func55 #[.int .u8 b2] ?_;refine (althingref2_digit.calls _ _ _ HD2.out).mono ?_;rintro e w9 ⟨rfl,⟨m_,rfl⟩⟩;refine ⟨_,rfl,?_⟩;refine hK.out _ _ hHeld (fun hHeld=>?_);clear hK K;refine nm (some 133) ?_;refine p_ HT_ 27 (some 134) ref_block_r29.l27 ?_;refine tk HT_ HW_ hHeld 28 (some 135) ref_block_r29.l28 (hr:=by intro w' hs_;obtain ⟨s0,s1⟩:=hs_;go_simp;with_reducible rfl) (h:=?_);refine last_ (i:=29) (N:=some 136) ref_block_r29.l29 rfl rfl (one_of HT_.out (by kernel_rfl)) (by decide) (fun K hK=>?_);clear hHeld;refine gs Tryd.func54 #[.pointer (some ⟨g12,0,none⟩),.int .i64 2,.int .i64 (wrap64 7),.int .i64 (wrap64 8),.int .i64 (wrap64 13),.int .u64 m1,.int .u64 m2] ?_;refine (HMX.out _ ((HA'.out.drew.drewN _).drewN _)).mono ?_;rintro e wn ⟨rfl,ha_,hg_⟩;refine ⟨_,rfl,?_⟩;refine hK.out _ _ ?_;clear hK K;refine nm (some 136) ?_;refine done_ (done_of HT_.out (by kernel_rfl)) ?_;clear HT_ HW_;rw [HE.out] at ha_;have HA2:=am ha_;have HG3:=am (grown_step (grown_drewN (grown_drewN (grown_drew HG2.out) _) _) hg_);clear ha_ hg_ s0 s1
    go_wp2
    exact ⟨⟨3,rfl,⟨by decide,by decide⟩,⟨_,(ref_mix_length _ _ _ _ _ _ _).trans HVn.out,HA2.out,runB_rest _ _ _ _ 2 (by decide) HR'.out⟩,HG3⟩,by simp [intOf]⟩
   ·obtain ⟨b1,p1,hx1,hd1,hp0,hp1,hpn⟩:=ref_word j hj10 14 (by decide) (by decide);obtain ⟨b2,p2,hx2,hd2,hq0,hq1,hqn⟩:=ref_word j hj10 15 (by decide) (by decide);rw [← HS.out] at hx1 hx2;obtain ⟨m1,hm1⟩ : ∃ v,v = M.getD p1.toNat 0:=⟨_,rfl⟩;obtain ⟨m2,hm2⟩ : ∃ v,v = M.getD p2.toNat 0:=⟨_,rfl⟩;have s0:=HM2.out.cell p1.toNat (by rw [HMl.out];omega);have s1:=HM2.out.cell p2.toNat (by rw [HMl.out];omega);rw [← hm1] at s0;rw [← hm2] at s1;have HD1:=am hd1;have HD2:=am hd2;have HMX:=am (fun w hA=>ref_mix_i g12 Vn 3 (wrap64 4) (wrap64 9) (wrap64 14) m1 m2 w (by decide) (by rw [w_4];decide) (by rw [w_9];decide) (by rw [w_14];decide) HVn.out hA);have HE : Aside0 (ref_mix.f Vn (3 : Int).toNat (wrap64 4).toNat (wrap64 9).toNat (wrap64 14).toNat m1 m2 = halfB M P Vn 3):=⟨by rw [w_4,w_9,w_14,hm1,hm2,hpn,hqn,← HP.out];rfl⟩;clear hd1 hd2 hm1 hm2 hpn hqn
    go_upto_region 29 with (fail)
    refine start_ (n:=30) (S:=fun w'=>w'.cell? ⟨g9,p1.toNat,none⟩ = some (.int .u64 m1) ∧ w'.cell? ⟨g9,p2.toNat,none⟩ = some (.int .u64 m2)) (ds:=[29]) (bl 30 0) (by kernel_rfl) rfl rfl ⟨s0,s1⟩ (fun hHeld=>?_);refine with_tabW ref_block_r29.tab ref_block_r29.bits (fun HT_ HW_=>?_);refine p_ HT_ 0 (some 107) ref_block_r29.l0 ?_;refine p_ HT_ 1 (some 108) ref_block_r29.l1 ?_;refine p_ HT_ 2 (some 109) ref_block_r29.l2 ?_;refine p_ HT_ 3 (some 110) ref_block_r29.l3 ?_;refine p_ HT_ 4 (some 111) ref_block_r29.l4 ?_;refine p_ HT_ 5 (some 112) ref_block_r29.l5 ?_;refine p_ HT_ 6 (some 113) ref_block_r29.l6 ?_;refine p_ HT_ 7 (some 114) ref_block_r29.l7 ?_;refine p_ HT_ 8 (some 115) ref_block_r29.l8 ?_;refine p_ HT_ 9 (some 116) ref_block_r29.l9 ?_;refine p_ HT_ 10 (some 117) ref_block_r29.l10 ?_;refine p_ HT_ 11 (some 118) ref_block_r29.l11 ?_;refine p_ HT_ 12 (some 119) ref_block_r29.l12 ?_;refine p_ HT_ 13 (some 120) ref_block_r29.l13 ?_;refine p_ HT_ 14 (some 121) ref_block_r29.l14 ?_;refine p_ HT_ 15 (some 122) ref_block_r29.l15 ?_;refine p_ HT_ 16 (some 123) ref_block_r29.l16 ?_;refine p_ HT_ 17 (some 124) ref_block_r29.l17 ?_;refine p_ HT_ 21 (some 128) ref_block_r29.l18 ?_;refine p_ HT_ 22 (some 129) ref_block_r29.l19 ?_;refine p_ HT_ 23 (some 130) ref_block_r29.l20 ?_;refine p_ HT_ 24 (some 131) ref_block_r29.l21 ?_;refine p_ HT_ 25 (some 132) ref_block_r29.l22 ?_;refine o_ HT_ 18 (some 125) ref_block_r29.l23 fun K hK=>?_;refine gs Tryd.func55 #[.int .u8 b1] ?_;refine (althingref2_digit.calls _ _ _ HD1.out).mono ?_;rintro e w9 ⟨rfl,⟨m_,rfl⟩⟩;refine ⟨_,rfl,?_⟩;refine hK.out _ _ hHeld (fun hHeld=>?_);clear hK K;refine nm (some 125) ?_;refine p_ HT_ 19 (some 126) ref_block_r29.l24 ?_;refine tk HT_ HW_ hHeld 20 (some 127) ref_block_r29.l25 (hr:=by intro w' hs_;obtain ⟨s0,s1⟩:=hs_;go_simp;with_reducible rfl) (h:=?_);refine o_ HT_ 26 (some 133) ref_block_r29.l26 fun K hK=>?_;refine gs Tryd.func55 #[.int .u8 b2] ?_;refine (althingref2_digit.calls _ _ _ HD2.out).mono ?_;rintro e w9 ⟨rfl,⟨m_,rfl⟩⟩;refine ⟨_,rfl,?_⟩;refine hK.out _ _ hHeld (fun hHeld=>?_);clear hK K;refine nm (some 133) ?_;refine p_ HT_ 27 (some 134) ref_block_r29.l27 ?_;refine tk HT_ HW_ hHeld 28 (some 135) ref_block_r29.l28 (hr:=by intro w' hs_;obtain ⟨s0,s1⟩:=hs_;go_simp;with_reducible rfl) (h:=?_);refine last_ (i:=29) (N:=some 136) ref_block_r29.l29 rfl rfl (one_of HT_.out (by kernel_rfl)) (by decide) (fun K hK=>?_);clear hHeld;refine gs Tryd.func54 #[.pointer (some ⟨g12,0,none⟩),.int .i64 3,.int .i64 (wrap64 4),.int .i64 (wrap64 9),.int .i64 (wrap64 14),.int .u64 m1,.int .u64 m2] ?_;refine (HMX.out _ ((HA'.out.drew.drewN _).drewN _)).mono ?_;rintro e wn ⟨rfl,ha_,hg_⟩;refine ⟨_,rfl,?_⟩;refine hK.out _ _ ?_;clear hK K;refine nm (some 136) ?_;refine done_ (done_of HT_.out (by kernel_rfl)) ?_;clear HT_ HW_;rw [HE.out] at ha_;have HA2:=am ha_;have HG3:=am (grown_step (grown_drewN (grown_drewN (grown_drew HG2.out) _) _) hg_);clear ha_ hg_ s0 s1
    go_wp2
    exact ⟨⟨4,rfl,⟨by decide,by decide⟩,⟨_,(ref_mix_length _ _ _ _ _ _ _).trans HVn.out,HA2.out,runB_rest _ _ _ _ 3 (by decide) HR'.out⟩,HG3⟩,by simp [intOf]⟩
  ·have d0 : decide (x < 12) = false:=decide_eq_false hlt
   have hx9 : x = 12:=by omega
   subst hx9;have hve : V = VF:=hR;subst hve;have A14:=am hV;have HVl:=am hVl;have A4e:=am (A4d.out.grown (by rw [HHl.out];decide) HG.out (by have:=N1.out;simpa using this.symm));have T8e:=am (there_of_block T8d.out (HG.out.block g8 LT8d.out (by have:=N3.out;simpa using this.symm)));have G1e:=am (G1d.out.grown HG.out G1d.out.size (fun j hj=>by cases hj;exact G12n.out));have LT12e:=am (A14.out.lt (by rw [hVl];decide));have LT8e : Aside0 (g8 < wr.heap.size):=⟨Nat.lt_of_lt_of_le LT8d.out HG.out.size⟩;have HBF:=am (HBL.out V HVF.out);obtain ⟨wC,hwC⟩ : ∃ wC,wC = wr:=⟨_,rfl⟩;subst hwC;clear hV hVl hR HV HG hx0 hx1 hlt
   go_wp2
   go_loopw [19] (fun i wr=>∃ x : Int,i = .int .i64 x ∧ (0 ≤ x ∧ x ≤ 8) ∧ Aside0 (∃ Hx,Hx.length = 8 ∧ Arr wr g4 Hx ∧ outR V (List.range' x.toNat (8 - x.toNat)) Hx = outR V (List.range 8) H) ∧ Aside0 (wC.grownBy wr (some g4)))
    (fun i _=>8 - (intOf i).toNat)
   case atStart=>exact ⟨0,rfl,⟨by omega,by omega⟩,⟨H,HHl.out,A4e.out,by rw [List.range_eq_range'];rfl⟩,⟨World.grownBy.refl _ _⟩⟩
   case round=>
   obtain ⟨x,rfl,⟨hx0,hx1⟩,HV,HG⟩:=hrel;obtain ⟨Hx,hHl,hHx,hR⟩:=HV.out
   by_cases hlt : x < 8
   ·have d0 : decide (x < 8) = true:=decide_eq_true hlt;obtain ⟨y,hy⟩ : ∃ y,wrap64 (x + 8) = y:=⟨_,rfl⟩
    have hy' : y = x + 8:=by rw [← hy];unfold wrap64;omega
    have y0 : 0 ≤ y:=by omega
    have y1 : y < 16:=by omega
    have x16 : x < 16:=by omega
    have xw : wrap64 (x + 1) = x + 1:=by unfold wrap64;omega
    have a7:=A14.out.grown (by rw [HVl.out];decide) HG.out (by have:=N1.out;simpa using this);obtain ⟨v_h,hv_h⟩ : ∃ v,v = Hx.getD x.toNat 0:=⟨_,rfl⟩;obtain ⟨v_q1,hv_p⟩ : ∃ v,v = V.getD x.toNat 0:=⟨_,rfl⟩;obtain ⟨v_q,hv_q⟩ : ∃ v,v = V.getD y.toNat 0:=⟨_,rfl⟩;have s0:=hHx.cell x.toNat (by omega);have s1:=a7.cell x.toNat (by rw [HVl.out];omega);have s2:=a7.cell y.toNat (by rw [HVl.out];omega);have s3:=hHx.frozen x.toNat (by omega);rw [← hv_h] at s0;rw [← hv_p] at s1;rw [← hv_q] at s2;have Hv_h:=am hv_h;have Hv_p2:=am hv_p;have Hv_q:=am hv_q;have HHx:=am hHx;have HHl2:=am hHl;have HR:=am hR;have HY:=am hy';clear a7 hv_h hv_p hv_q hHx hHl hR hy' HV
    go_upto_region 33 with (fail)
    refine start_ (n:=15) (S:=fun w'=>w'.cell? ⟨g4,x.toNat,none⟩ = some (.int .u64 v_h) ∧ w'.cell? ⟨g12,x.toNat,none⟩ = some (.int .u64 v_q1) ∧ w'.cell? ⟨g12,y.toNat,none⟩ = some (.int .u64 v_q) ∧ w'.frozen? ⟨g4,x.toNat,none⟩ = false) (ds:=[14]) (bl 15 0) (by kernel_rfl) rfl rfl ⟨s0,s1,s2,s3⟩ (fun hHeld=>?_);refine with_tabW ref_block_r33.tab ref_block_r33.bits (fun HT_ HW_=>?_);refine p_ HT_ 0 (some 141) ref_block_r33.l0 ?_;refine p_ HT_ 1 (some 142) ref_block_r33.l1 ?_;refine p_ HT_ 2 (some 143) ref_block_r33.l2 ?_;refine tk HT_ HW_ hHeld 3 (some 144) ref_block_r33.l3 (hr:=by intro w' hs_;obtain ⟨s0,s1,s2,s3⟩:=hs_;go_simp;with_reducible rfl) (h:=?_);refine p_ HT_ 4 (some 145) ref_block_r33.l4 ?_;refine p_ HT_ 5 (some 146) ref_block_r33.l5 ?_;refine tk HT_ HW_ hHeld 6 (some 147) ref_block_r33.l6 (hr:=by intro w' hs_;obtain ⟨s0,s1,s2,s3⟩:=hs_;go_simp;with_reducible rfl) (h:=?_);refine p_ HT_ 7 (some 148) ref_block_r33.l7 ?_;refine p_ HT_ 8 (some 149) ref_block_r33.l8 ?_;refine p_ HT_ 9 (some 150) ref_block_r33.l9 ?_;refine p_ HT_ 10 (some 151) ref_block_r33.l10 ?_;refine tk HT_ HW_ hHeld 11 (some 152) ref_block_r33.l11 (hr:=by intro w' hs_;obtain ⟨s0,s1,s2,s3⟩:=hs_;go_simp;with_reducible rfl) (h:=?_);refine p_ HT_ 12 (some 153) ref_block_r33.l12 ?_;refine p_ HT_ 13 (some 154) ref_block_r33.l13 ?_;refine last_ (i:=14) (N:=none) ref_block_r33.l14 rfl rfl (one_of HT_.out (by kernel_rfl)) (by decide) (fun K hK=>?_);clear hHeld;refine skip_ (w1:=World.setCell wr.drew ⟨g4,x.toNat,none⟩ (.int .u64 (Go.bits .xor .u64 (Go.bits .xor .u64 v_h v_q1) v_q))) (by rfl) rfl ?_ ?_
    ·go_simp
    refine hK.out _ _ ?_;clear hK K;refine done_ (done_of HT_.out (by kernel_rfl)) ?_;clear HT_ HW_;have n0_:=HHx.out.drew.set x.toNat (by rw [HHl2.out];omega) (Go.bits .xor .u64 (Go.bits .xor .u64 v_h v_q1) v_q);have n1_:=grown_set (grown_drew HG.out) x.toNat (.int .u64 (Go.bits .xor .u64 (Go.bits .xor .u64 v_h v_q1) v_q));generalize World.setCell _ _ _ = wn at n0_ n1_ ⊢;have HA2:=am n0_;have HG2:=am n1_;clear n0_ n1_ s0 s1 s2 s3
    go_wp2
    have hy':=HY.out
    have e : y.toNat = x.toNat + 8:=by omega
    exact ⟨⟨x + 1,by first | rfl | (rw [xw]) | (simp [xw]),⟨by omega,by omega⟩,⟨_,(List.length_set).trans HHl2.out,HA2.out,by rw [show (x + 1).toNat = x.toNat + 1 by omega,Hv_h.out,Hv_p2.out,Hv_q.out,e];exact outR_rest _ _ _ x.toNat (by omega) HR.out⟩,HG2⟩,by simp [intOf];omega⟩
   ·have d0 : decide (x < 8) = false:=decide_eq_false hlt
    have hx9 : x = 8:=by omega
    subst hx9;have hR' : Hx = outR V (List.range 8) H:=hR;have HR:=am hR';obtain ⟨L,hL⟩ : ∃ L,L = Hx.map (Value.int .u64):=⟨_,rfl⟩;have hrg:=hHx.range;rw [← hL] at hrg;have HRG:=am hrg;have HL:=am hL;have HLl : Aside0 (L.length = 8):=⟨by rw [hL,List.length_map,hHl]⟩;have HLo : Aside0 (∀ v ∈ L,v.oneCell' = true):=⟨by rw [hL];exact one_of_map _⟩;have T8g:=am (there_of_block T8e.out (HG.out.block g8 LT8e.out (by have:=NE48.out;simpa using this.symm)));have G1g:=am (G1e.out.grown HG.out G1e.out.size (fun j hj=>by cases hj;exact G4n.out));clear hR hR' hL hrg hHl hHx HV hx0 hx1 hlt
    go_wp2_with (first
     | ((with_reducible refine gate_dst (N:=155) rfl ?_);refine wpList_load_mid rfl 62 _ rfl g4 0 rfl L _ HRG.out Tryd.underlying62 rfl (by rw [HLl.out];exact size_of info_a8) ?_)
     | ((with_reducible refine gate_store (t:=62) (p:=8) rfl ?_);refine wpList_store_mid rfl 62 _ _ rfl g8 0 L.toArray rfl rfl (by rw [List.size_toArray,HLl.out,← HZ8l.out];exact T8g.out) (by rw [List.size_toArray,HLl.out];exact size_of info_a8) (all_oneCell_toArray HLo.out) ?_))
    have BR:=World.rangeAt_setCells_same wr g8 0 L (by rw [HLl.out,← HZ8l.out];exact T8g.out);have hres:=run_loadVar_mid (P:=Tryd.prog) (wr.setCells g8 0 L) g8 0 62 L _ BR Tryd.underlying62 rfl (by rw [HLl.out];exact size_of info_a8);refine bodyPost_ret (v:= .agg L.toArray) (results_cell rfl _ rfl hres) rfl ?_;refine ⟨?_,below_setCells g8 G8n.out L 0 wr G1g.out⟩
    rw [HL.out,HR.out,HBF.out])
end Go.Proofs.YtilckocpgififaaDoor.G
