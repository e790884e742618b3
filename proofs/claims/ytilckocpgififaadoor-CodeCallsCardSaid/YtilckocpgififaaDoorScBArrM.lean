/- blake.round: all words are mixed, columns first, in an order. -/
import Derived.Test.YtilckocpgififaaDoorScHStep
import Derived.Test.YtilckocpgififaaDoorScBMix
import Derived.Test.YtilckocpgififaaDoorScBWords
import Derived.Lib.Strings
import Derived.Lib.Slices
import Derived.Lib.Walk
import Derived.Lib.Bytealg
import Derived.Test.YtilckocpgififaaDoorScBArr
import Derived.Laws.IdiomCopy
namespace Go.Proofs.YtilckocpgififaaDoor.G
open Go.RowKit Go.Proofs.YtilckocpgififaaDoorW.PrintWords Go.Proofs.YtilckocpgififaaDoorW.PrintLast Go.Proofs.YtilckocpgififaaDoorW.PrintMore
set_option linter.unusedVariables false
set_option linter.unusedSimpArgs false
set_option maxHeartbeats 1000000 in
set_option maxRecDepth 100000 in
theorem lite_IndexByte (s : ByteArray) (c : Int) (w : World) :
 Calls Tryd.prog 82 #[.string s,.int .u8 c] w fun e w'=>e = .returned (.int .i64 (Lib.indexByte s.data.toList c.toNat.toUInt8)) ∧ w' = w:=by
 go_enter Tryd.func82,Tryd.ntmps82
 go_wp2
 rw [run_callFunc_extern Tryd.func87 (by kernel_rfl) (by kernel_rfl) (by kernel_rfl) (e:=Extern.BytealgIndexByte.indexByte) (by kernel_rfl),Lib.run_indexByteString];simp only [Result.andThen];rw [Oper.upon_value]
 go_wp2
 go_ret
 exact ⟨rfl,rfl⟩
set_option maxHeartbeats 1000000 in
theorem str_IndexByte (s : ByteArray) (c : Int) (w : World) :
 Calls Tryd.prog 78 #[.string s,.int .u8 c] w fun e w'=>e = .returned (.int .i64 (Lib.indexByte s.data.toList c.toNat.toUInt8)) ∧ w' = w:=by
 go_enter Tryd.func78,Tryd.ntmps78
 go_wp2_with (go_at_call 82;refine (lite_IndexByte _ _ _).mono ?_;rintro e w' ⟨rfl,rfl⟩)
 go_ret
 exact ⟨rfl,rfl⟩
def digitsB : ByteArray:=⟨#[48,49,50,51,52,53,54,55,56,57,97,98,99,100,101,102]⟩
structure Order (s : ByteArray) (P : List Nat) : Prop where
 size : s.size = 16
 at_ : ∀ i : Nat,i < 16 → Lib.indexByte digitsB.data.toList (bt s (i : Int)).toNat.toUInt8 = ((P.getD i 0 : Nat) : Int) ∧ P.getD i 0 < 16
set_option maxRecDepth 100000 in
set_option maxHeartbeats 4000000 in
theorem round_word (gm go : Nat) (M : List Int) (s : ByteArray) (P : List Nat) (i : Nat) (w : World) (hi : i < 16) (hM : M.length = 16) (hP : Order s P) (hA : Arr w gm M) (hs : w.cell? ⟨go,0,none⟩ = some (.string s)) :
 Calls Tryd.prog 77 #[.int .i64 i,.pointer (some ⟨gm,0,none⟩),.pointer (some ⟨go,0,none⟩)] w fun e w'=>e = .returned (.int .u64 (M.getD (P.getD i 0) 0)) ∧ w' = w:=by
 obtain ⟨h1,h2⟩:=hP.at_ i hi;obtain ⟨p,hp⟩ : ∃ p,p = P.getD i 0:=⟨_,rfl⟩;rw [← hp] at h1 h2 ⊢;have hc:=hA.cell p (by omega);have hsz:=hP.size;obtain ⟨q,hq⟩ : ∃ q : Int,q = (p : Int):=⟨_,rfl⟩;rw [← hq] at h1
 have q0 : 0 ≤ q:=by omega
 have q1 : q < 16:=by omega
 have qn : q.toNat = p:=by omega
 rw [← qn] at hc ⊢;obtain ⟨x,hx⟩ : ∃ x : Int,x = (i : Int):=⟨_,rfl⟩;rw [← hx] at h1 ⊢
 have x0 : 0 ≤ x:=by omega
 have x1 : x < (s.size : Int):=by omega
 obtain ⟨b,hb⟩ : ∃ b,b = bt s x:=⟨_,rfl⟩;rw [← hb] at h1
 have hbt : ∀ h : x.toNat < s.size,((s[x.toNat]'h).toNat : Int) = b:=fun h=>by rw [hb];exact bt_at s x h
 clear hb hq hx hp hA hP hsz hM qn;go_enter Tryd.func77,Tryd.ntmps77
 go_wp2_with (go_at_call 78;refine (str_IndexByte digitsB b _).mono ?_;rintro e w' ⟨rfl,rfl⟩;rw [h1])
 go_ret
 exact ⟨rfl,rfl⟩
theorem round_word_i (gm go : Nat) (M : List Int) (s : ByteArray) (P : List Nat) (x : Int) (w : World) (hi : 0 ≤ x ∧ x < 16) (hM : M.length = 16) (hP : Order s P) (hA : Arr w gm M) (hs : w.cell? ⟨go,0,none⟩ = some (.string s)) :
 Calls Tryd.prog 77 #[.int .i64 x,.pointer (some ⟨gm,0,none⟩),.pointer (some ⟨go,0,none⟩)] w fun e w'=>e = .returned (.int .u64 (M.getD (P.getD x.toNat 0) 0)) ∧ w' = w:=by
 have:=round_word gm go M s P x.toNat w (by omega) hM hP hA hs;rwa [Int.toNat_of_nonneg hi.1] at this
theorem mixes_i (g : Nat) (V : List Int) (a b c d x y : Int) (w : World) (ha : 0 ≤ a ∧ a < 16) (hb : 0 ≤ b ∧ b < 16) (hc : 0 ≤ c ∧ c < 16) (hd : 0 ≤ d ∧ d < 16) (hL : V.length = 16) (hA : Arr w g V) :
 Calls Tryd.prog 79 #[.pointer (some ⟨g,0,none⟩),.int .i64 a,.int .i64 b,.int .i64 c,.int .i64 d,.int .u64 x,.int .u64 y] w fun e w'=>e = .returned (.tuple #[]) ∧ Arr w' g (blake_mixes.f V a.toNat b.toNat c.toNat d.toNat x y) ∧ w.grownBy w' (some g):=by
 have:=blake_mixes.calls g a.toNat b.toNat c.toNat d.toNat V x y w (by omega) (by omega) (by omega) (by omega) hL hA;rwa [Int.toNat_of_nonneg ha.1,Int.toNat_of_nonneg hb.1,Int.toNat_of_nonneg hc.1,Int.toNat_of_nonneg hd.1] at this
/-! ### round -/
def rstep (M : List Int) (P : List Nat) (V : List Int) (i : Nat) : List Int:=
 blake_mixes.f V (i % 4) (4 + (i % 4 + i / 4) % 4) (8 + (i % 4 + 2 * (i / 4)) % 4) (12 + (i % 4 + 3 * (i / 4)) % 4) (M.getD (P.getD (2 * i) 0) 0) (M.getD (P.getD (2 * i + 1) 0) 0)
def roundL (V M : List Int) (P : List Nat) : List Int:=[0,1,2,3,4,5,6,7].foldl (rstep M P) V
theorem below_grown {w w' : World} (h : Below w.heap.size w w') (r : Option Nat) : w.grownBy w' r:=⟨h.os,h.tape,h.output,h.size,fun k hk _=>h.block k hk⟩
theorem mixes_length (V : List Int) (a b c d : Nat) (x y : Int) : (blake_mixes.f V a b c d x y).length = V.length:=by
 unfold blake_mixes.f
 simp only [List.foldl_cons,List.foldl_nil,blake_mixes.step_length]
theorem rstep_length (M : List Int) (P : List Nat) (V : List Int) (i : Nat) : (rstep M P V i).length = V.length:=mixes_length _ _ _ _ _ _ _
theorem roundL_length (V M : List Int) (P : List Nat) : (roundL V M P).length = V.length:=by
 unfold roundL
 simp only [List.foldl_cons,List.foldl_nil,rstep_length]
theorem rstep_of (M : List Int) (P : List Nat) (W : List Int) (k a b c d i j : Nat) (ha : a = k % 4) (hb : b = 4 + (k % 4 + k / 4) % 4) (hc : c = 8 + (k % 4 + 2 * (k / 4)) % 4) (hd : d = 12 + (k % 4 + 3 * (k / 4)) % 4) (hi : i = 2 * k) (hj : j = 2 * k + 1) :
 blake_mixes.f W a b c d (M.getD (P.getD i 0) 0) (M.getD (P.getD j 0) 0) = rstep M P W k:=by
 subst ha hb hc hd hi hj;rfl
theorem rest_of (M : List Int) (P : List Nat) (W R : List Int) (k : Nat) (hk : k < 8) (h : (List.range' k (8 - k)).foldl (rstep M P) W = R) : (List.range' (k + 1) (8 - (k + 1))).foldl (rstep M P) (rstep M P W k) = R:=by
 rw [show 8 - k = (8 - (k + 1)) + 1 by omega,List.range'_succ,List.foldl_cons] at h;exact h
set_option maxRecDepth 100000 in
set_option maxHeartbeats 8000000 in
theorem blake_round.calls (g : Nat) (V M : List Int) (s : ByteArray) (P : List Nat) (w : World) (hV : V.length = 16) (hM : M.length = 16) (hP : Order s P) (hA : Arr w g V) :
 Calls Tryd.prog 70 #[.pointer (some ⟨g,0,none⟩),.agg (M.map (Value.int .u64)).toArray,.string s] w fun e w'=>e = .returned (.tuple #[]) ∧ Arr w' g (roundL V M P) ∧ w.grownBy w' (some g):=by
 obtain ⟨X,hX⟩ : ∃ X,X = (M.map (Value.int .u64)).toArray:=⟨_,rfl⟩;rw [← hX];have hgw:=hA.lt (by omega);have HX:=am hX;have HA:=am hA;have HP:=am hP;clear hX hA hP;go_enter Tryd.func70,Tryd.ntmps70
 go_upto_region 1 with (first
  | ((with_reducible refine gate_dst (N:=4) rfl ?_);refine box_event ?hg (N:=4) ?hd (cs:=X) (t:=91) ?hr ?_;(case hd=>rfl);(case hg=>rfl);(case hr=>first | (go_simp;done) | (go_simp;rfl));intro gm hg_ w1 hbox_ hb_;have GM:=am hg_;have BM:=am hbox_;have HB1:=am hb_;clear hg_ hbox_ hb_)
  | ((with_reducible refine gate_dst (N:=5) rfl ?_);refine box_event ?hg (N:=5) ?hd (cs:=#[.string s]) (t:=9) ?hr ?_;(case hd=>rfl);(case hg=>rfl);(case hr=>first | (go_simp;done) | (go_simp;rfl));intro go hg_ w2 hbox_ hb_;have GO:=am hg_;have BO:=am hbox_;have HB2:=am hb_;clear hg_ hbox_ hb_))
 have bm:=BM.out;rw [HX.out] at bm;have hm1 : Arr w1 gm M:=⟨rangeAt_box bm,by have:=there_box bm;rwa [List.length_map] at this⟩;have hm2 : Arr w2 gm M:=hm1.below HB2.out (hm1.lt (by omega));have ho2 : w2.cell? ⟨go,0,none⟩ = some (.string s):=blk_cell BO.out 0;have hA2 : Arr w2 g V:=(HA.out.below (below_step HB1.out HB2.out) hgw)
 have n1 : gm ≠ g:=by have:=GM.out;omega
 have n2 : go ≠ g:=by have:=GO.out;have:=HB1.out.size;omega
 have hgo:=blk_lt BO.out;have HM2:=am hm2;have HO2:=am ho2;have HA2:=am hA2;have N1:=am n1;have N2:=am n2;have HGO:=am hgo;have HG2:=am (below_grown (below_step HB1.out HB2.out) (some g));clear bm hm1 hm2 ho2 hA2 n1 n2 hgo
 go_wp2
 go_loopw [11] (fun i wr=>∃ x : Int,i = .int .i64 x ∧ (0 ≤ x ∧ x ≤ 8) ∧ Aside0 (∃ W,W.length = 16 ∧ Arr wr g W ∧ ((List.range' x.toNat (8 - x.toNat)).foldl (rstep M P) W = roundL V M P)) ∧ Aside0 (w2.grownBy wr (some g)))
  (fun i _=>8 - (intOf i).toNat)
 case atStart=>exact ⟨0,rfl,⟨by omega,by omega⟩,⟨V,hV,HA2.out,rfl⟩,⟨World.grownBy.refl w2 _⟩⟩
 case round=>
  obtain ⟨x,rfl,⟨hx0,hx1⟩,HV,HG⟩:=hrel;obtain ⟨W,hWl,hW,hR⟩:=HV.out;have hmr : Arr wr gm M:=HM2.out.grown (by omega) HG.out (by have:=N1.out;simpa using this);have hor : wr.cell? ⟨go,0,none⟩ = some (.string s):=(World.cell?_of_block (a:=⟨go,0,none⟩) (HG.out.block go HGO.out (by have:=N2.out;simpa using this))).trans HO2.out;have HMr:=am hmr;have HOr:=am hor;have HW:=am hW;have HR:=am hR;have HWl:=am hWl;have HMl:=am hM;clear hmr hor hW hR hWl HV
  have hx : x = 0 ∨ x = 1 ∨ x = 2 ∨ x = 3 ∨ x = 4 ∨ x = 5 ∨ x = 6 ∨ x = 7 ∨ x = 8:=by omega
  clear hx0 hx1
  rcases hx with rfl | rfl | rfl | rfl | rfl | rfl | rfl | rfl | rfl
  rotate_right
  ·go_wp2
   refine bodyPost_end (v:= .tuple #[]) (results_none rfl _ _ _) rfl ?_;exact ⟨rfl,by rw [← HR.out];exact HW.out,grown_step HG2.out HG.out⟩
  ·go_wp2_with (first
    | (go_at_call 77;with_reducible refine (round_word_i gm go M s P _ _ (by decide) HMl.out HP.out HMr.out HOr.out).mono ?_;rintro e w' ⟨rfl,rfl⟩)
    | (go_at_call 79;with_reducible refine (mixes_i g W _ _ _ _ _ _ _ (by decide) (by decide) (by decide) (by decide) HWl.out HW.out).mono ?_;rintro e w4 ⟨rfl,ha4,hg4⟩;have HA4:=am ha4;have HG4:=am hg4;clear ha4 hg4))
   have HA5 : Arr w4 g (rstep M P W 0):=by rw [← rstep_of M P W 0 0 4 8 12 0 1 rfl rfl rfl rfl rfl rfl];exact HA4.out
   exact ⟨⟨1,rfl,⟨by decide,by decide⟩,⟨rstep M P W 0,(rstep_length _ _ _ _).trans HWl.out,HA5,rest_of M P W _ 0 (by decide) HR.out⟩,⟨grown_step HG.out HG4.out⟩⟩,by simp [intOf]⟩
  ·go_wp2_with (first
    | (go_at_call 77;with_reducible refine (round_word_i gm go M s P _ _ (by decide) HMl.out HP.out HMr.out HOr.out).mono ?_;rintro e w' ⟨rfl,rfl⟩)
    | (go_at_call 79;with_reducible refine (mixes_i g W _ _ _ _ _ _ _ (by decide) (by decide) (by decide) (by decide) HWl.out HW.out).mono ?_;rintro e w4 ⟨rfl,ha4,hg4⟩;have HA4:=am ha4;have HG4:=am hg4;clear ha4 hg4))
   have HA5 : Arr w4 g (rstep M P W 1):=by rw [← rstep_of M P W 1 1 5 9 13 2 3 rfl rfl rfl rfl rfl rfl];exact HA4.out
   exact ⟨⟨2,rfl,⟨by decide,by decide⟩,⟨rstep M P W 1,(rstep_length _ _ _ _).trans HWl.out,HA5,rest_of M P W _ 1 (by decide) HR.out⟩,⟨grown_step HG.out HG4.out⟩⟩,by simp [intOf]⟩
  ·go_wp2_with (first
    | (go_at_call 77;with_reducible refine (round_word_i gm go M s P _ _ (by decide) HMl.out HP.out HMr.out HOr.out).mono ?_;rintro e w' ⟨rfl,rfl⟩)
    | (go_at_call 79;with_reducible refine (mixes_i g W _ _ _ _ _ _ _ (by decide) (by decide) (by decide) (by decide) HWl.out HW.out).mono ?_;rintro e w4 ⟨rfl,ha4,hg4⟩;have HA4:=am ha4;have HG4:=am hg4;clear ha4 hg4))
   have HA5 : Arr w4 g (rstep M P W 2):=by rw [← rstep_of M P W 2 2 6 10 14 4 5 rfl rfl rfl rfl rfl rfl];exact HA4.out
   exact ⟨⟨3,rfl,⟨by decide,by decide⟩,⟨rstep M P W 2,(rstep_length _ _ _ _).trans HWl.out,HA5,rest_of M P W _ 2 (by decide) HR.out⟩,⟨grown_step HG.out HG4.out⟩⟩,by simp [intOf]⟩
  ·go_wp2_with (first
    | (go_at_call 77;with_reducible refine (round_word_i gm go M s P _ _ (by decide) HMl.out HP.out HMr.out HOr.out).mono ?_;rintro e w' ⟨rfl,rfl⟩)
    | (go_at_call 79;with_reducible refine (mixes_i g W _ _ _ _ _ _ _ (by decide) (by decide) (by decide) (by decide) HWl.out HW.out).mono ?_;rintro e w4 ⟨rfl,ha4,hg4⟩;have HA4:=am ha4;have HG4:=am hg4;clear ha4 hg4))
   have HA5 : Arr w4 g (rstep M P W 3):=by rw [← rstep_of M P W 3 3 7 11 15 6 7 rfl rfl rfl rfl rfl rfl];exact HA4.out
   exact ⟨⟨4,rfl,⟨by decide,by decide⟩,⟨rstep M P W 3,(rstep_length _ _ _ _).trans HWl.out,HA5,rest_of M P W _ 3 (by decide) HR.out⟩,⟨grown_step HG.out HG4.out⟩⟩,by simp [intOf]⟩
  ·go_wp2_with (first
    | (go_at_call 77;with_reducible refine (round_word_i gm go M s P _ _ (by decide) HMl.out HP.out HMr.out HOr.out).mono ?_;rintro e w' ⟨rfl,rfl⟩)
    | (go_at_call 79;with_reducible refine (mixes_i g W _ _ _ _ _ _ _ (by decide) (by decide) (by decide) (by decide) HWl.out HW.out).mono ?_;rintro e w4 ⟨rfl,ha4,hg4⟩;have HA4:=am ha4;have HG4:=am hg4;clear ha4 hg4))
   have HA5 : Arr w4 g (rstep M P W 4):=by rw [← rstep_of M P W 4 0 5 10 15 8 9 rfl rfl rfl rfl rfl rfl];exact HA4.out
   exact ⟨⟨5,rfl,⟨by decide,by decide⟩,⟨rstep M P W 4,(rstep_length _ _ _ _).trans HWl.out,HA5,rest_of M P W _ 4 (by decide) HR.out⟩,⟨grown_step HG.out HG4.out⟩⟩,by simp [intOf]⟩
  ·go_wp2_with (first
    | (go_at_call 77;with_reducible refine (round_word_i gm go M s P _ _ (by decide) HMl.out HP.out HMr.out HOr.out).mono ?_;rintro e w' ⟨rfl,rfl⟩)
    | (go_at_call 79;with_reducible refine (mixes_i g W _ _ _ _ _ _ _ (by decide) (by decide) (by decide) (by decide) HWl.out HW.out).mono ?_;rintro e w4 ⟨rfl,ha4,hg4⟩;have HA4:=am ha4;have HG4:=am hg4;clear ha4 hg4))
   have HA5 : Arr w4 g (rstep M P W 5):=by rw [← rstep_of M P W 5 1 6 11 12 10 11 rfl rfl rfl rfl rfl rfl];exact HA4.out
   exact ⟨⟨6,rfl,⟨by decide,by decide⟩,⟨rstep M P W 5,(rstep_length _ _ _ _).trans HWl.out,HA5,rest_of M P W _ 5 (by decide) HR.out⟩,⟨grown_step HG.out HG4.out⟩⟩,by simp [intOf]⟩
  ·go_wp2_with (first
    | (go_at_call 77;with_reducible refine (round_word_i gm go M s P _ _ (by decide) HMl.out HP.out HMr.out HOr.out).mono ?_;rintro e w' ⟨rfl,rfl⟩)
    | (go_at_call 79;with_reducible refine (mixes_i g W _ _ _ _ _ _ _ (by decide) (by decide) (by decide) (by decide) HWl.out HW.out).mono ?_;rintro e w4 ⟨rfl,ha4,hg4⟩;have HA4:=am ha4;have HG4:=am hg4;clear ha4 hg4))
   have HA5 : Arr w4 g (rstep M P W 6):=by rw [← rstep_of M P W 6 2 7 8 13 12 13 rfl rfl rfl rfl rfl rfl];exact HA4.out
   exact ⟨⟨7,rfl,⟨by decide,by decide⟩,⟨rstep M P W 6,(rstep_length _ _ _ _).trans HWl.out,HA5,rest_of M P W _ 6 (by decide) HR.out⟩,⟨grown_step HG.out HG4.out⟩⟩,by simp [intOf]⟩
  ·go_wp2_with (first
    | (go_at_call 77;with_reducible refine (round_word_i gm go M s P _ _ (by decide) HMl.out HP.out HMr.out HOr.out).mono ?_;rintro e w' ⟨rfl,rfl⟩)
    | (go_at_call 79;with_reducible refine (mixes_i g W _ _ _ _ _ _ _ (by decide) (by decide) (by decide) (by decide) HWl.out HW.out).mono ?_;rintro e w4 ⟨rfl,ha4,hg4⟩;have HA4:=am ha4;have HG4:=am hg4;clear ha4 hg4))
   have HA5 : Arr w4 g (rstep M P W 7):=by rw [← rstep_of M P W 7 3 4 9 14 14 15 rfl rfl rfl rfl rfl rfl];exact HA4.out
   exact ⟨⟨8,rfl,⟨by decide,by decide⟩,⟨rstep M P W 7,(rstep_length _ _ _ _).trans HWl.out,HA5,rest_of M P W _ 7 (by decide) HR.out⟩,⟨grown_step HG.out HG4.out⟩⟩,by simp [intOf]⟩
end Go.Proofs.YtilckocpgififaaDoor.G
/- More of arrays of words: a stretch laid over, copy. -/
namespace Go.Proofs.YtilckocpgififaaDoor.G
open Go.RowKit Go.Proofs.YtilckocpgififaaDoorW.PrintWords Go.Proofs.YtilckocpgififaaDoorW.PrintLast Go.Proofs.YtilckocpgififaaDoorW.PrintMore
set_option linter.unusedVariables false
set_option linter.unusedSimpArgs false
theorem grown_new {w a b : World} {r : Option Nat} {k : Nat} (h : w.grownBy a r) (hk : a.grownBy b (some k)) (hn : w.heap.size ≤ k) : w.grownBy b r:=
 ⟨hk.os.trans h.os,hk.tape.trans h.tape,hk.output.trans h.output,Nat.le_trans h.size hk.size,fun i hi hne=>(hk.block i (Nat.lt_of_lt_of_le hi h.size) (by simp;omega)).trans (h.block i hi hne)⟩
theorem grown_setCells {w w' : World} {g : Nat} (o : Nat) (L : List Value) (h : w.grownBy w' (some g)) : w.grownBy (w'.setCells g o L) (some g):=by
 induction L generalizing o w' with
 | nil=>exact h
 | cons v L ih=>exact ih (o + 1) (grown_set h o v)
theorem addr_add (g o j : Nat) : (⟨g,o,none⟩ : Addr).add j = ⟨g,o + j,none⟩:=by
 unfold Addr.add
 split
 ·rename_i h;subst h;rfl
 ·rfl
theorem Arr.splice {w : World} {g : Nat} {V : List Int} (h : Arr w g V) (o : Nat) (vs : List Int) (ho : o + vs.length ≤ V.length) : Arr (w.setCells g o (vs.map (Value.int .u64))) g (V.take o ++ vs ++ V.drop (o + vs.length)):=by
 have hlen : (V.take o ++ vs ++ V.drop (o + vs.length)).length = V.length:=by simp;omega
 refine ⟨fun j v hj=>?_,by rw [hlen];exact World.there_setCells h.there g o _⟩;rw [Nat.zero_add];rw [List.getElem?_map] at hj
 by_cases h1 : j < o
 ·rw [List.append_assoc,List.getElem?_append_left (by simp;omega),List.getElem?_take_of_lt h1] at hj;rw [World.cell?_setCells_out g _ o w ⟨g,j,none⟩ (fun _ _=> .inl h1)];have:=h.range j v (by rw [List.getElem?_map];exact hj);rwa [Nat.zero_add] at this
 by_cases h2 : j < o + vs.length
 rotate_left
 ·rw [List.getElem?_append_right (by simp;omega),List.getElem?_drop] at hj;rw [World.cell?_setCells_out g _ o w ⟨g,j,none⟩ (fun _ _=> .inr (by show o + _ ≤ j;rw [List.length_map];omega))]
  have:=h.range j v (by
   rw [List.getElem?_map,← hj]
   congr 2
   simp;omega)
  rwa [Nat.zero_add] at this
 rw [List.append_assoc,List.getElem?_append_right (by simp;omega),List.getElem?_append_left (by simp;omega)] at hj;obtain ⟨i,rfl⟩ : ∃ i,j = o + i:=⟨j - o,by omega⟩
 have hi : i < (vs.map (Value.int .u64)).length:=by rw [List.length_map];omega
 rw [World.cell?_setCells_in g _ o w (fun k hk=>by
  have:=(h.there (o + k) (by rw [List.length_map] at hk;omega)).1
  rwa [Nat.zero_add] at this) i hi]
 rw [← hj,show o + i - (V.take o).length = i by simp;omega,List.getElem?_eq_getElem (by rw [List.length_map] at hi;exact hi)]
 simp
theorem Arr.copied {P : Program} {w : World} {g gs : Nat} {V : List Int} (h : Arr w g V) (o : Nat) (vs : List Int) (ho : o + vs.length ≤ V.length) (dT sT ty elem : TypeId) (dLen dCap sLen sCap : Nat)
 (hu : P.underlying dT = some (.slice elem)) (hs : (P.info? elem).map (·.size) = some 1) (hn : vs.length = Nat.min sLen dLen) (hsrc : w.rangeAt gs 0 (vs.map (Value.int .u64))) :
 (Builtin.copy_ #[dT,sT] ty #[.slice (some ⟨g,o,none⟩) dLen dCap,.slice (some ⟨gs,0,none⟩) sLen sCap]).run P w = .ok (goInt vs.length) (w.setCells g o (vs.map (Value.int .u64))):=by
 have:=run_copy_cells (P:=P) w dT sT ty elem g o dLen dCap ⟨gs,0,none⟩ sLen sCap (vs.map (Value.int .u64)) hu hs (by rw [List.length_map];exact hn)
  (fun j v hj=>by rw [addr_add];exact hsrc j v hj)
  (fun j hj=>by
    rw [List.length_map] at hj;have:=(h.there (o + j) (by omega)).1
    rwa [Nat.zero_add] at this)
  (fun j hj=>by
    rw [List.length_map] at hj;have:=(h.there (o + j) (by omega)).2
    rwa [Nat.zero_add] at this)
  (fun v hv=>by
    obtain ⟨x,_,rfl⟩:=List.mem_map.1 hv
    rfl)
 rwa [List.length_map] at this
theorem Arr.take {w : World} {g : Nat} {V : List Int} (h : Arr w g V) (n : Nat) : w.rangeAt g 0 ((V.take n).map (Value.int .u64)):=fun j v hj=>by
 rw [List.getElem?_map] at hj;refine h.range j v ?_;rw [List.getElem?_map]
 by_cases hn : j < n
 ·rwa [List.getElem?_take_of_lt hn] at hj
 rw [List.getElem?_eq_none (by simp;omega)] at hj;cases hj
theorem rangeAt_block {w w' : World} {g : Nat} {L : List Value} (h : w.rangeAt g 0 L) (hb : w'.heap[g]? = w.heap[g]?) : w'.rangeAt g 0 L:=fun j u hj=>(World.cell?_of_block (a:=⟨g,0 + j,none⟩) hb).trans (h j u hj)
end Go.Proofs.YtilckocpgififaaDoor.G
