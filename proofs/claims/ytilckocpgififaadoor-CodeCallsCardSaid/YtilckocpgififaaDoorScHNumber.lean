import Derived.Test.YtilckocpgififaaDoorScHSeq
namespace Go.Proofs.YtilckocpgififaaDoor.G
open Go.RowKit Go.Shelf Go.Proofs.YtilckocpgififaaDoorW.PrintWords
set_option linter.unusedVariables false
set_option linter.unusedSimpArgs false
attribute [local go_sem] Oper.semAt_some
def backs (zs : List Int) (m : Nat) : List (Int × Int):=(List.range m).map fun (j : Nat)=>((zs.length : Int) - 1 - j,rd zs ((zs.length : Int) - 1 - j))
theorem backs_succ (zs : List Int) (m : Nat) : backs zs (m + 1) = backs zs m ++ [((zs.length : Int) - 1 - m,rd zs ((zs.length : Int) - 1 - m))]:=by simp [backs,List.range_succ]
theorem backs_length (zs : List Int) (m : Nat) : (backs zs m).length = m:=by simp [backs]
set_option maxRecDepth 100000 in
set_option maxHeartbeats 2000000 in
theorem back1_in (F : Fence) (n : Nat) (h40 : F.fn 84) (hro : F.round = none) (hn : 1 ≤ n) (l Bs : Nat) (A : Option Addr) (cap : Nat) (zs : List Int) (hreach : zs.length ≤ 9223372036854775807) (S : Nat → Prop) (hS : S Bs) (hA : ∀ ad,A = some ad → 0 < zs.length → S ad.block) (J Jx : List (Int × Int) → World → Prop)
 (hY : ∀ pre x W,J pre W → pre.length < zs.length → YieldAt F (n - 1) Tryd.prog l #[.int .i64 x.1,.int .u8 x.2] W fun e W'=>
   (e = .returned (.bool true) ∧ J (pre ++ [x]) W' ∧ KeepsS S W W') ∨ (e = .returned (.bool false) ∧ Jx (pre ++ [x]) W'))
 (W : World) (hBs : W.cell? ⟨Bs,0,none⟩ = some (.slice A zs.length cap)) (hc : Kd.C (Kd.int .u8) W A zs.length zs) (h0 : J [] W) :
 CallsIn F n Tryd.prog 84 #[.func (.yield l) #[] #[],.pointer (some ⟨Bs,0,none⟩)] W fun e W'=>(∃ v,e = .returned v) ∧
  ((∃ ys,ys = backs zs zs.length ∧ J ys W') ∨ (∃ pre,(∃ k,k ≤ zs.length ∧ pre = backs zs k) ∧ Jx pre W')):=by
 refine callsIn_of_wp Tryd.func84 rfl h40 ?_ hro;simp only [Tryd.ntmps84,List.size_toArray,List.length_cons,List.length_nil,Nat.reduceAdd,Nat.reduceSub,Array.replicate_succ,Array.replicate_zero,List.push_toArray,List.append_toArray,List.nil_append,List.cons_append];have w1 : IntKind.i64.wrap ((zs.length : Int) - 1) = (zs.length : Int) - 1:=IntWalk.i64_in _ (by omega)
 gi_wp2
 gi_loopw [3] (fun v wr=>∃ (m : Nat) (i : Int),m ≤ zs.length ∧ i = (zs.length : Int) - 1 - m ∧ v = .int .i64 i ∧ J (backs zs m) wr ∧ KeepsS S W wr)
  (fun v _=>(intOf v + 1).toNat)
 case atStart=>exact ⟨0,(zs.length : Int) - 1,Nat.zero_le _,by omega,by first | rfl | (rw [w1]) | (simp [w1]),h0,KeepsS.refl _ _⟩
 case round=>
  obtain ⟨m,i,hm,hi,rfl,hJs,hnx⟩:=hrel;have hBx:=(hnx.cell (p:=⟨Bs,0,none⟩) hS).trans hBs
  by_cases hlt : m < zs.length
  rotate_left
  ·obtain rfl : m = zs.length:=by omega
   obtain rfl : i = -1:=by omega
   gi_wp2
   go_end0
   exact ⟨⟨_,rfl⟩,.inl ⟨_,rfl,hJs⟩⟩
  rcases C_cells hc with ⟨_,h⟩ | ⟨ad,rfl,_,hcs⟩
  ·omega
  have hcx:=(hnx.cell (p:=ad.add i.toNat) (by rw [addr_block];exact hA ad rfl (by omega))).trans (hcs i (by omega) (by omega))
  have hi0 : 0 ≤ i:=by omega
  have hi1 : i < (zs.length : Int):=by omega
  have wi : IntKind.i64.wrap (i - 1) = i - 1:=IntWalk.i64_in _ (by omega);obtain ⟨fn,tmps,assign,body,hy,hR⟩:=hY _ (i,rd zs i) wr hJs (by rw [backs_length];exact hlt)
  dsimp only at hy
  have hi2:=Lib.hid hi;clear hi hlt
  gi_wp2
  refine hR.mono ?_;rintro e W3 (⟨rfl,hJ3,hk3⟩ | ⟨rfl,hJx3⟩)
  ·gi_wp2
   have hi:=hi2.out
   go_roundw
   case rel=>exact ⟨m + 1,i - 1,by omega,by omega,by first | rfl | (rw [wi]) | simp,by rw [backs_succ,← hi];exact hJ3,keepsS_t hnx hk3⟩
   case measure=>simp [intOf];omega
  ·gi_wp2
   have hi:=hi2.out;refine bodyPost_ret (results_none rfl _ _ _) rfl ?_;exact ⟨⟨_,rfl⟩,.inr ⟨_,⟨m + 1,by omega,by rw [backs_succ,← hi]⟩,hJx3⟩⟩
set_option maxHeartbeats 1000000 in
theorem back_in (F : Fence) (n : Nat) (h37 : F.fn 80) (hro : F.round = none) (a : Option Addr) (len cap : Nat) (w : World) :
 CallsIn F n Tryd.prog 80 #[.slice a len cap] w fun e w'=>e = .returned (.func (.func 84) #[] #[.pointer (some ⟨w.heap.size,0,none⟩)]) ∧ w' = w.alloc (.cells #[.slice a len cap] 26):=by
 refine callsIn_of_wp Tryd.func80 rfl h37 ?_ hro;simp only [Tryd.ntmps80,List.size_toArray,List.length_cons,List.length_nil,Nat.reduceAdd,Nat.reduceSub,Array.replicate_succ,Array.replicate_zero,List.push_toArray,List.append_toArray,List.nil_append,List.cons_append]
 gi_wp2
 go_ret
 exact ⟨rfl,rfl⟩
theorem back_stops (F : Fence) (n : Nat) (h40 : F.fn 84) (hro : F.round = none) (hn : 1 ≤ n) (Bs : Nat) (A : Option Addr) (cap : Nat) (zs : List Int) (hreach : zs.length ≤ 9223372036854775807) (S : Nat → Prop) (hS : S Bs) (hA : ∀ ad,A = some ad → 0 < zs.length → S ad.block) (w : World) (hSw : ∀ k,S k → k < w.heap.size)
 (hc : w.cell? ⟨Bs,0,none⟩ = some (.slice A zs.length cap)) (hI : Kd.C (Kd.int .u8) w A zs.length zs) :
 SeqStopsK F n Tryd.prog 84 #[.pointer (some ⟨Bs,0,none⟩)] (fun x : Int × Int=>#[Value.int .i64 x.1,Value.int .u8 x.2]) (KeepsS S) (fun ys=>ys = backs zs zs.length)
  (fun pre=>∃ k,k ≤ zs.length ∧ pre = backs zs k) zs.length w:=fun l J Jx W hW _ _ hY h0=>by
 have hk:=KeepsS.of_below hW hSw;exact back1_in F n h40 hro hn l Bs A cap zs hreach S hS hA J Jx hY W ((hk.cell (p:=⟨Bs,0,none⟩) hS).trans hc) (Kd.C_below hI hW) h0
/-! ### compact_number, by hand -/
def numStep (s : Int) (c : Int) : Int:=wrap64 (wrap64 (s * 256) + c)
def compact_number.f (l0 : List Int) : Option Int:=some (l0.reverse.foldl numStep 0)
theorem wrap_add_wrap (a b : Int) : wrap64 (a + wrap64 b) = wrap64 (a + b):=by unfold wrap64;omega
def numSo (pre : List (Int × Int)) : Int:=(pre.map (·.2)).foldl numStep 0
theorem numSo_snoc (pre : List (Int × Int)) (x : Int × Int) : numSo (pre ++ [x]) = numStep (numSo pre) x.2:=by simp [numSo]
theorem numSo_backs (zs : List Int) : numSo (backs zs zs.length) = zs.reverse.foldl numStep 0:=by
 have e : (backs zs zs.length).map (·.2) = zs.reverse:=by
  apply List.ext_getElem
  ·simp [backs]
  ·intro i h1 h2
   have hi : i < zs.length:=by simpa using h2
   simp only [backs,List.map_map,List.getElem_map,List.getElem_range,Function.comp,List.getElem_reverse]
   have e : ((zs.length : Int) - 1 - (i : Int)).toNat = zs.length - 1 - i:=by omega
   unfold rd
   rw [e,List.getD_eq_getElem?_getD,List.getElem?_eq_getElem (by omega)]
   rfl
 rw [numSo,e]
set_option maxRecDepth 100000 in
set_option maxHeartbeats 4000000 in
theorem compact_number.calls (A0 : Option Addr) (c0 : Nat) (l0 : List Int) (r : Int) (w : World) (hr0 : Kd.C (Kd.int .u8) w A0 l0.length l0) (hc0 : l0.length ≤ c0) (h : compact_number.f l0 = some r) :
 Calls Tryd.prog 73 #[.slice A0 l0.length c0] w fun e w'=>e = .returned (.int .i64 r) ∧ Below w.heap.size w w':=by
 obtain rfl:=Option.some.inj h;clear h;refine (callsIn_wide (n:=5)).1 ?_
 have hlt : ∀ ad,A0 = some ad → 0 < l0.length → ad.block < w.heap.size:=fun ad e hn=>by subst e;exact Kd.C_lt hr0 hn (by decide)
 refine callsIn_of_wp_marks Tryd.func73 rfl trivial ?_ rfl;simp only [Tryd.ntmps73,List.size_toArray,List.length_cons,List.length_nil,Nat.reduceAdd,Nat.reduceSub,Array.replicate_succ,Array.replicate_zero,List.push_toArray,List.append_toArray,List.nil_append,List.cons_append]
 gi_wp2_with (refine ⟨trivial,?_⟩;gi_at_call 80;refine (back_in _ _ trivial rfl _ _ _ _).mono ?_;rintro e w' ⟨rfl,rfl⟩)
 have bS:=Boxed.new w 3 (.int .i64 0);have bN:=Boxed.new (w.alloc (.cells #[.int .i64 0] 3)) 26 (.slice A0 l0.length c0);rw [World.size_alloc] at bN;have hB0 : Below w.heap.size w ((w.alloc (.cells #[.int .i64 0] 3)).alloc (.cells #[.slice A0 l0.length c0] 26)):=((Below.refl _ w).alloc (Nat.le_refl _) _).alloc (by simp) _
 refine wpIn_rangeFunc_ownG rfl (by decide) (gf:=84) (lb:=#[.pointer (some ⟨w.heap.size + 1,0,none⟩)]) rfl trivial (enters_of Tryd.func84 (by kernel_rfl) rfl)
  (back_stops _ _ trivial rfl (by decide) (w.heap.size + 1) A0 c0 l0 (Nat.le_trans hr0.2.1 (Nat.le_refl _)) (fun k=>k ≠ w.heap.size ∧ k < w.heap.size + 2) ⟨by omega,by omega⟩ ?hA _ (by simp) bN.cell (Kd.C_below hr0 hB0)) keepsS_t (keepsS_b (by simp)) (Below.refl _ _) (fun _=>rfl)
  (fun pre W=>(W.cell? ⟨w.heap.size,0,none⟩ = some (.int .i64 (numSo pre)) ∧ W.frozen? ⟨w.heap.size,0,none⟩ = false) ∧ Below w.heap.size w W)
  (fun _ _ _=>False)
  (OwnFrom.and (Own.from (fun s A B row hs hg hr=>⟨cell_kept hs.1 hg hr,(frozen_kept hs.1 hg hr).trans hs.2⟩) _) (ownFrom_below (Nat.le_refl _) (by simp;omega)))
  (fun _ _ _ _ _ hs _ _=>hs)
  ⟨⟨(bS.alloc _).cell,(bS.alloc _).frozen⟩,hB0⟩
  (fun x=>{ tmps:=#[.slice A0 l0.length c0,undef,.int .i64 0,.pointer (some ⟨w.heap.size,0,none⟩),undef,.int .u8 x.2,.slice A0 l0.length c0,.func (.func 84) #[] #[.pointer (some ⟨w.heap.size + 1,0,none⟩)],.int .i64 x.1,.int .u8 x.2,undef,undef,undef,undef,undef,undef],defers:=[] }) ?assign ?body ?done ?stop
 case hA=>intro ad e hn;have:=hlt ad e hn;exact ⟨by omega,by omega⟩
 case assign=>
  intro l x W K hK
  gi_wp2
  exact hK
 case body=>
  rintro l pre x W ⟨⟨hc,hf⟩,hB⟩ _
  gi_wp2
  refine ⟨(KeepsOthers.setCell _ _ _).from _,(KeepsS.refl _ W).setCell (p:=⟨w.heap.size,0,none⟩) (fun h=>h.1 rfl) _,⟨?_,by rw [World.frozen?_setCell];exact hf⟩,hB.setCell (p:=⟨w.heap.size,0,none⟩) (Nat.le_refl _) _⟩;rw [World.cell?_setCell_same' _ _ _ (by rw [hc];rfl),numSo_snoc];simp only [numStep];simp only [wrap_add_wrap]
 case done=>
  rintro D ys W hD rfl ⟨⟨hc,_⟩,hB⟩ hK
  gi_wp2
  refine ⟨by simp,.inl ⟨_,_,rfl,run_takeDeferred hK,?_⟩⟩;exact ⟨_,results_tmp rfl _ _ _,by rw [← numSo_backs];rfl,hB.trans (belowK_b (w:=w) (Nat.le_refl _) W D _ _ (by simp at hD;omega) hK rfl rfl)⟩
 case stop=>
  rintro D c pre W _ _ h _;exact h.elim
end Go.Proofs.YtilckocpgififaaDoor.G
