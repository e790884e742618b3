import Derived.Test.YtdnfknphahmofaaHNums
import Derived.Maps.AppendAt
/- compact.Nums, and the law's own nums over it: all numbers, one behind the other. -/
namespace Go.Proofs.Ytdnfknphahmofaa.G
open Go.RowKit Go.Shelf Go.Proofs.YtdnfknphahmofaaW Go.Proofs.YtdnfknphahmofaaW.PrintWords Go.Proofs.Ytdnfknphahmofaa.PNum
set_option linter.unusedVariables false
set_option linter.unusedSimpArgs false
attribute [local go_sem] Oper.semAt_some

/-- A function value is not nil. -/
theorem run_equalIn_func {P : Program} (W : World) (d t : Nat) {x y : Array TypeId} {z : Bool} (h : P.underlying t = some (.func x y z)) (f : Fn) (ts bs : Array Value) : (Op.equalIn (d + 1) t (.func f ts bs) .nilFunc).run P W = .ok false W := by
  simp [Op.equalIn, run_underlying h]
theorem run_eql_func {P : Program} (W : World) (t : Nat) {x y : Array TypeId} {z : Bool} (h : P.underlying t = some (.func x y z)) (f : Fn) (ts bs : Array Value) : (binOp .eql t (.func f ts bs) .nilFunc).run P W = .ok (.bool false) W := by
  simp only [binOp]
  simp [Op.equal, Op.maxDepth, run_equalIn_func W 9999 t h f ts bs]
set_option maxHeartbeats 1000000 in
theorem numsAll_in (n : Nat) (a : Option Addr) (len cap : Nat) (w : World) :
    CallsIn Fence.wide n Try.prog 34 #[.slice a len cap, .func (.func 15) #[] #[]] w fun e w' => e = .returned (.func (.func 38) #[] #[.pointer (some ⟨w.heap.size, 0, none⟩), .pointer (some ⟨w.heap.size + 1, 0, none⟩)]) ∧ w' = (w.alloc (.cells #[.slice a len cap] 23)).alloc (.cells #[.func (.func 15) #[] #[]] 29) := by
  refine callsIn_of_wp Try.func34 rfl trivial ?_ rfl
  simp only [Try.ntmps34, List.size_toArray, List.length_cons, List.length_nil, Nat.reduceAdd, Nat.reduceSub, Array.replicate_succ, Array.replicate_zero, List.push_toArray, List.append_toArray, List.nil_append, List.cons_append]
  gi_wp2
  go_ret
  exact ⟨rfl, rfl⟩
set_option maxHeartbeats 1000000 in
theorem nums_in (n : Nat) (hn : 1 ≤ n) (a : Option Addr) (len cap : Nat) (w : World) :
    CallsIn Fence.wide n Try.prog 25 #[.slice a len cap] w fun e w' => e = .returned (.func (.func 38) #[] #[.pointer (some ⟨w.heap.size, 0, none⟩), .pointer (some ⟨w.heap.size + 1, 0, none⟩)]) ∧ w' = (w.alloc (.cells #[.slice a len cap] 23)).alloc (.cells #[.func (.func 15) #[] #[]] 29) := by
  refine callsIn_of_wp Try.func25 rfl trivial ?_ rfl
  simp only [Try.ntmps25, List.size_toArray, List.length_cons, List.length_nil, Nat.reduceAdd, Nat.reduceSub, Array.replicate_succ, Array.replicate_zero, List.push_toArray, List.append_toArray, List.nil_append, List.cons_append]
  gi_wp2_with (refine ⟨trivial, ?_⟩; gi_at_call 34; refine (numsAll_in _ _ _ _ _).mono ?_; rintro e w' ⟨rfl, rfl⟩)
  go_ret
  exact ⟨rfl, rfl⟩

theorem nums_stops (n : Nat) (hn : 1 ≤ n) (Bb Bn : Nat) (A : Option Addr) (cap : Nat) (b : List Int) (hb : IsBytes b) (hcap : b.length ≤ cap) (S : Nat → Prop) (hSb : S Bb) (hSn : S Bn) (hA : ∀ ad, A = some ad → 0 < b.length → S ad.block) (w : World) (hSw : ∀ k, S k → k < w.heap.size)
    (hBb : w.cell? ⟨Bb, 0, none⟩ = some (.slice A b.length cap)) (hBn : w.cell? ⟨Bn, 0, none⟩ = some (.func (.func 15) #[] #[])) (hC : Kd.C (Kd.int .u8) w A b.length b) :
    SeqStopsK Fence.wide n Try.prog 38 #[.pointer (some ⟨Bb, 0, none⟩), .pointer (some ⟨Bn, 0, none⟩)] (fun x : Int × Int => #[Value.int .i64 x.1, Value.int .i64 x.2]) (KeepsS S) (fun ys => ys = tag (numsL b))
      (fun pre => ∃ ns, ns <+: numsL b ∧ pre = tag ns) (numsL b).length w := fun l J Jx W hW hJ _ hY h0 => by
  have hk := KeepsS.of_below hW hSw
  exact nums1_in n hn l Bb Bn A cap b hb hcap S hSb hSn hA W (fun k h => Nat.lt_of_lt_of_le (hSw k h) hW.size) J Jx hJ hY ((hk.cell (p := ⟨Bb, 0, none⟩) hSb).trans hBb) ((hk.cell (p := ⟨Bn, 0, none⟩) hSn).trans hBn) (Kd.C_below hC hW) h0

theorem tag_snds (l : List Int) : (tag l).map (·.2) = l := by
  have : ∀ i, (tagFrom i l).map (·.2) = l := by
    induction l with
    | nil => intro i; rfl
    | cons x l ih => intro i; simp [tagFrom, ih]
  exact this 0
theorem tag_last {l : List Int} {ini : List (Int × Int)} {x : Int × Int} (h : tag l = ini ++ [x]) : x.1 = (ini.length : Int) ∧ l.length = ini.length + 1 := by
  have hl : l.length = ini.length + 1 := by rw [← tag_length l, h]; simp
  obtain ⟨l', v, rfl⟩ : ∃ l' v, l = l' ++ [v] := by
    rcases List.eq_nil_or_concat l with rfl | ⟨l', v, rfl⟩
    · simp at hl
    · exact ⟨l', v, by simp⟩
  rw [tag_snoc] at h
  obtain ⟨h1, h2⟩ := List.append_inj' h rfl
  have hx : ((l'.length : Int), v) = x := by simpa using h2
  subst hx
  simp at hl
  exact ⟨by simp [hl], by simp [hl]⟩

theorem boxed_own {β : Type} (B : Nat) (t : TypeId) (u : Value) : Own (fun (_ : β) W => Boxed W B t u) := by
  intro s X Y row hv hg hrow
  refine Boxed.kept hv hg (fun e' => ?_)
  obtain ⟨o, ho, hc⟩ := hrow B e'.symm
  rw [show X.heap[B]? = _ from hv] at ho; cases ho; cases hc
theorem own_and {β : Type} {I J : β → World → Prop} (h : Own I) (k : Own J) : Own (fun s W => I s W ∧ J s W) := fun s X Y row hs hg hr => ⟨h s X Y row hs.1 hg hr, k s X Y row hs.2 hg hr⟩
theorem boxed_appended {W w1 : World} {n₀ B C : Nat} {t e : TypeId} {size : Nat} {v v' u : Value} {k : Nat} {xs : List Value} {tmp : Obj}
    (hu : Boxed W C t u) (hte : t ≠ e) (hCB : C ≠ B) (hrow : W.ownsRow n₀ e size v k xs) (hgrow : (W.alloc tmp).grownBy w1 v.ownBlock) : Boxed (w1.setCell ⟨B, 0, none⟩ v') C t u :=
  ((hu.alloc tmp).kept hgrow (hu.not_row hte hrow)).kept (grownBy_setCell' w1 B v') (fun e' => hCB (by cases e'; rfl))
theorem boxed_putObj {W : World} {B l : Nat} {t : TypeId} {u : Value} (h : Boxed W B t u) {o : Obj} (o' : Obj) (hl : W.heap[l]? = some o) (ho : o.isCells = false) : Boxed (W.putObj l o') B t u := by
  refine h.kept (grownBy_putObj' W l o') (fun e' => ?_)
  cases e'
  rw [show W.heap[B]? = _ from h] at hl; cases hl; cases ho

set_option maxRecDepth 100000 in
set_option maxHeartbeats 8000000 in
theorem althinglaw1_nums.calls_ (A0 : Option Addr) (c0 : Nat) (b : List Int) (w : World) (hr0 : Kd.C (Kd.int .u8) w A0 b.length b) (hc0 : b.length ≤ c0) (hb : IsBytes b) (hlen : (numsL b).length ≤ 10001) :
    Calls Try.prog 16 #[.slice A0 b.length c0] w fun e w' => ∃ v0_ : Value, e = .returned (.tuple #[v0_, .bool true]) ∧ Kd.R (Kd.int .i64) 3 w' w.heap.size (fun _ => True) v0_ (numsL b) ∧ Below w.heap.size w w' := by
  obtain ⟨i0, hi, hz0, hz1, hz2⟩ := info_parts info3
  refine (callsIn_wide (n := 6)).1 ?_
  have hlt : ∀ ad, A0 = some ad → 0 < b.length → ad.block < w.heap.size := fun ad e hn => by subst e; exact Kd.C_lt hr0 hn (by decide)
  refine callsIn_of_wp_marks Try.func16 rfl trivial ?_ rfl
  simp only [Try.ntmps16, List.size_toArray, List.length_cons, List.length_nil, Nat.reduceAdd, Nat.reduceSub, Array.replicate_succ, Array.replicate_zero, List.push_toArray, List.append_toArray, List.nil_append, List.cons_append]
  have hq : ∀ (W : World) (f : Fn) (ts bs : Array Value), (binOp .eql 50 (.func f ts bs) .nilFunc).run Try.prog W = .ok (.bool false) W := fun W f ts bs => run_eql_func W _ Try.underlying50 f ts bs
  gi_wp2_with (refine ⟨trivial, ?_⟩; gi_at_call 25; refine (nums_in _ (by decide) _ _ _ _).mono ?_; rintro e w' ⟨rfl, rfl⟩)
  have bR := Boxed.new w 32 (.slice none 0 0)
  have bK := Boxed.new (w.alloc (.cells #[.slice none 0 0] 32)) 4 (.bool false)
  have bB := Boxed.new ((w.alloc (.cells #[.slice none 0 0] 32)).alloc (.cells #[.bool false] 4)) 23 (.slice A0 b.length c0)
  have bN := Boxed.new (((w.alloc (.cells #[.slice none 0 0] 32)).alloc (.cells #[.bool false] 4)).alloc (.cells #[.slice A0 b.length c0] 23)) 29 (.func (.func 15) #[] #[])
  have bO := Boxed.new ((((w.alloc (.cells #[.slice none 0 0] 32)).alloc (.cells #[.bool false] 4)).alloc (.cells #[.slice A0 b.length c0] 23)).alloc (.cells #[.func (.func 15) #[] #[]] 29)) 32 (.slice none 0 0)
  simp only [World.size_alloc] at bK bB bN bO
  have hB0 : Below w.heap.size w (((((w.alloc (.cells #[.slice none 0 0] 32)).alloc (.cells #[.bool false] 4)).alloc (.cells #[.slice A0 b.length c0] 23)).alloc (.cells #[.func (.func 15) #[] #[]] 29)).alloc (.cells #[.slice none 0 0] 32)) := ((((((Below.refl _ w).alloc (Nat.le_refl _) _).alloc (by simp) _).alloc (by simp; omega) _).alloc (by simp; omega) _).alloc (by simp; omega) _)
  have hb2 := ((bB.alloc (.cells #[.func (.func 15) #[] #[]] 29)).alloc (.cells #[.slice none 0 0] 32))
  have hb3 := bN.alloc (.cells #[.slice none 0 0] 32)
  refine wpIn_rangeFunc_ownG rfl (by decide) (gf := 38) (lb := #[.pointer (some ⟨w.heap.size + 1 + 1, 0, none⟩), .pointer (some ⟨w.heap.size + 1 + 1 + 1, 0, none⟩)]) rfl trivial (enters_of Try.func38 (by kernel_rfl) rfl)
    (nums_stops _ (by decide) (w.heap.size + 1 + 1) (w.heap.size + 1 + 1 + 1) A0 c0 b hb hc0 (fun k => k < w.heap.size ∨ k = w.heap.size + 1 + 1 ∨ k = w.heap.size + 1 + 1 + 1) (.inr (.inl rfl)) (.inr (.inr rfl)) (fun ad e hn => .inl (hlt ad e hn)) _ (by simp only [World.size_alloc]; intro k hk; omega) hb2.cell hb3.cell (Kd.C_below hr0 hB0)) keepsS_t (keepsS_b (by simp only [World.size_alloc]; intro k hk; omega)) (Below.refl _ _) (fun _ => rfl)
    (fun (pre : List (Int × Int)) W => ((∃ v, Boxed W (w.heap.size + 1 + 1 + 1 + 1) 32 v ∧ W.ownsRow w.heap.size 3 1 v pre.length (pre.map fun x => Value.int .i64 x.2) ∧ True) ∧ Boxed W w.heap.size 32 (.slice none 0 0) ∧ Boxed W (w.heap.size + 1) 4 (.bool false) ∧ Boxed W (w.heap.size + 1 + 1) 23 (.slice A0 b.length c0) ∧ Boxed W (w.heap.size + 1 + 1 + 1) 29 (.func (.func 15) #[] #[])) ∧ Below w.heap.size w W)
    (fun c (pre : List (Int × Int)) W => ∃ (ini : List (Int × Int)) (last : Int × Int), pre = ini ++ [last] ∧ (last.1 ≠ (ini.length : Int) ∨ (10000 : Int) < last.1))
    (OwnFrom.and (Own.from (own_and (holdsRow_own w.heap.size _ 32 3 1 (fun pre : List (Int × Int) => pre.length) (fun pre => pre.map fun x => Value.int .i64 x.2) (fun _ _ => True)) (own_and (boxed_own _ _ _) (own_and (boxed_own _ _ _) (own_and (boxed_own _ _ _) (boxed_own _ _ _))))) _) (ownFrom_below (Nat.le_refl _) (by simp only [World.size_alloc]; omega)))
    (fun _ _ _ _ _ hs _ _ => hs)
    ⟨⟨⟨_, bO, World.ownsRow_nil _ _ _ _, trivial⟩, (((bR.alloc _).alloc _).alloc _).alloc _, ((bK.alloc _).alloc _).alloc _, hb2, hb3⟩, hB0⟩
    (fun x => { tmps := #[.slice A0 b.length c0, undef, .pointer (some ⟨w.heap.size, 0, none⟩), .pointer (some ⟨w.heap.size + 1, 0, none⟩), .func (.func 38) #[] #[.pointer (some ⟨w.heap.size + 1 + 1, 0, none⟩), .pointer (some ⟨w.heap.size + 1 + 1 + 1, 0, none⟩)], .pointer (some ⟨w.heap.size + 1 + 1 + 1 + 1, 0, none⟩), .int .i64 x.1, .int .i64 x.2, .slice A0 b.length c0, .func (.func 38) #[] #[.pointer (some ⟨w.heap.size + 1 + 1, 0, none⟩), .pointer (some ⟨w.heap.size + 1 + 1 + 1, 0, none⟩)], .func (.func 38) #[] #[.pointer (some ⟨w.heap.size + 1 + 1, 0, none⟩), .pointer (some ⟨w.heap.size + 1 + 1 + 1, 0, none⟩)], .bool false, .func (.func 38) #[] #[.pointer (some ⟨w.heap.size + 1 + 1, 0, none⟩), .pointer (some ⟨w.heap.size + 1 + 1 + 1, 0, none⟩)], .int .i64 x.1, .int .i64 x.2, undef, undef, undef, undef, undef, undef, undef, undef, undef, undef, undef, undef, undef], defers := [] }) ?assign ?body ?done ?stop
  case assign =>
    intro l x W K hK
    gi_wp2
    exact hK
  case body =>
    rintro l pre ⟨x1, x2⟩ W ⟨⟨⟨v, hv, hrow, -⟩, h1, h2, h3, h4⟩, hB⟩ hlt'
    have hsz := hB.size
    have hv0 : ∃ (A : Option Addr) (c : Nat), v = .slice A pre.length c := by
      rcases hrow.2 with ⟨rfl, h0⟩ | ⟨g, cap, _, rfl, _⟩
      · exact ⟨none, 0, by rw [h0]⟩
      · exact ⟨_, _, rfl⟩
    have hln : ∀ W' : World, Sem.run Try.prog (Builtin.len_ #[32] 3 #[v]) W' = .ok (.int .i64 pre.length) W' := by
      intro W'
      obtain ⟨A, c, rfl⟩ := hv0
      simp [Builtin.len_, go_sem, Try.underlying32, goInt]
    clear hv0
    have hp1 : pre.length + 1 ≤ maxLen := by unfold maxLen; omega
    have hp2 : (pre.length + 1) * 8 ≤ 140737488355328 := by omega
    have hc := hv.cell
    have hc1 := h1.cell
    have hf1 := h1.frozen
    have hc2 := h2.cell
    have hf2 := h2.frozen
    by_cases he : x1 = (pre.length : Int)
    · by_cases ht : (10000 : Int) < x1
      · exfalso; omega
      · subst he
        gi_wp2_with (gi_at_builtin; refine wpListIn_append_own _ rfl _ _ 32 rfl w.heap.size 3 i0 (.int .i64 0) 1 8 Try.underlying32 hi hz0 hz1 hz2 rfl (by decide) _ _ _ rfl (hrow.alloc _) ⟨W.heap.size, 0, none⟩ 1 1 [.int .i64 x2] rfl rfl (cell_one_new _ _ _) (by simp [Value.oneCell']) hp1 hp2 (by simp; omega) ?_; intro v' w1 hown' hgrow _; obtain ⟨g', cap', rfl⟩ := ownsRow_succ hown'; obtain ⟨hv1, hv2, hr2, hk2, hb2⟩ := hv.appended (by decide) hrow hsz (by omega) hown' hgrow; have hc1 := hv1.cell; have hf1 := hv1.frozen)
        have hbx : ∀ {C : Nat} {t : TypeId} {u : Value}, Boxed W C t u → t ≠ 3 → C ≠ w.heap.size + 1 + 1 + 1 + 1 → Boxed (w1.setCell ⟨w.heap.size + 1 + 1 + 1 + 1, 0, none⟩ (.slice (some ⟨g', 0, none⟩) (pre.length + 1) cap')) C t u := fun hu ht hC => boxed_appended hu ht hC hrow hgrow
        have k3 := hbx h3 (by decide) (by omega)
        have k4 := hbx h4 (by decide) (by omega)
        refine ⟨hk2.from _, ⟨hk2.size, ?_⟩, ⟨⟨_, hv2, by simpa using hr2⟩, hbx h1 (by decide) (by omega), hbx h2 (by decide) (by omega), k3, k4⟩, hB.trans hb2⟩
        rintro k (hk | rfl | rfl)
        · exact hb2.block k hk
        · exact (show _ = _ from k3).trans (show _ = _ from h3).symm
        · exact (show _ = _ from k4).trans (show _ = _ from h4).symm
    · gi_wp2
      all_goals exact ⟨((KeepsOthers.setCell _ _ _).trans (KeepsOthers.setCell _ _ _)).from _, pre, _, rfl, .inl he⟩
  case done =>
    rintro D ys W hD rfl ⟨⟨⟨v, hv, hrow, -⟩, h1, h2, h3, h4⟩, hB⟩ hK
    have hmm : ((tag (numsL b)).map fun x => Value.int .i64 x.2) = (numsL b).map (Value.int .i64) := by
      conv => rhs; rw [← tag_snds (numsL b), List.map_map]
      rfl
    rw [hmm, tag_length] at hrow
    have hv0 : ∃ (A : Option Addr) (c : Nat), v = .slice A (numsL b).length c := by
      rcases hrow.2 with ⟨rfl, h0⟩ | ⟨g, cap, _, rfl, _⟩
      · exact ⟨none, 0, by rw [h0]⟩
      · exact ⟨_, _, rfl⟩
    obtain ⟨A, c, rfl⟩ := hv0
    have hc := hv.cell
    have hc1 := h1.cell
    have hf1 := h1.frozen
    have hc2 := h2.cell
    have hf2 := h2.frozen
    gi_wp2
    have hK1 := (KeepsOthers.setCell W ⟨w.heap.size, 0, none⟩ (.slice A (numsL b).length c)).same D _ hK rfl
    have hK2 := (KeepsOthers.setCell (W.setCell ⟨w.heap.size, 0, none⟩ (.slice A (numsL b).length c)) ⟨w.heap.size + 1, 0, none⟩ (.bool true)).same D _ hK1 rfl
    refine ⟨by simp, .inl ⟨_, _, rfl, run_takeDeferred hK2, ?_⟩⟩
    have e1 := h1.set (.slice A (numsL b).length c)
    have e2 := (h2.kept (grownBy_setCell' W w.heap.size (.slice A (numsL b).length c)) (by simp)).set (.bool true)
    have e1' := boxed_putObj (e1.kept (grownBy_setCell' _ (w.heap.size + 1) (.bool true)) (by simp)) (.deferred none) hK2 rfl
    have e2' := boxed_putObj e2 (.deferred none) hK2 rfl
    have c1' := e1'.cell
    have c2' := e2'.cell
    have hr := ownsRow_putObj ((hrow.kept (grownBy_setCell' W w.heap.size (.slice A (numsL b).length c)) (.inr (h1.not_row (by decide) hrow).symm)).kept (grownBy_setCell' _ (w.heap.size + 1) (.bool true)) (.inr ((h2.kept (grownBy_setCell' W w.heap.size (.slice A (numsL b).length c)) (by simp)).not_row (by decide) (hrow.kept (grownBy_setCell' W w.heap.size (.slice A (numsL b).length c)) (.inr (h1.not_row (by decide) hrow).symm))).symm)) (.deferred none) hK2 rfl
    have hq' : Kd.R (Kd.int .i64) 3 _ w.heap.size (fun _ => True) _ (numsL b) := Kd.R_of_own hr (fun _ _ => trivial)
    refine ⟨_, ?_, _, rfl, hq', ?_⟩
    · simp [results, Try.f16, go_sem, c1', c2']
    · exact ((hB.setCell (p := ⟨w.heap.size, 0, none⟩) (Nat.le_refl _) _).setCell (p := ⟨w.heap.size + 1, 0, none⟩) (Nat.le_succ _) _).trans (belowK_b (w := w) (Nat.le_refl _) _ D _ _ (by simp at hD; omega) hK2 rfl rfl)
  case stop =>
    rintro D c pre W _ ⟨ns, ⟨ns', hns⟩, rfl⟩ ⟨ini, last, e, hx⟩ _
    have hl := tag_last e
    have hle : ns.length ≤ (numsL b).length := by rw [← hns]; simp
    exfalso
    omega

end Go.Proofs.Ytdnfknphahmofaa.G
