/- Several texts of this claim, laid together. -/
import Derived.Test.YtbgfobdlnlkfiaaS0
import Derived.Test.YtbgfobdlnlkfiaaKa
import Derived.Shelf.SlSortCmp.WholeK
import Derived.Shelf.SlSortCmp.NoneTotal
import Derived.Test.YtbgfobdlnlkfiaaB1
import Derived.Test.YtbgfobdlnlkfiaaKb
import Derived.Outline
/- slices.SortFunc of ranges by where they begin, out of the shelf's contract: the row holds the sorted ranges; nothing else has turned. -/
namespace Go.Proofs.Ytbgfobdlnlkfiaa.A
open Go.RowKit Go.Proofs.YtbgfobdlnlkfiaaW.PrintWords Go.Proofs.YtbgfobdlnlkfiaaW.PrintLast Go.Proofs.YtbgfobdlnlkfiaaW.PrintMore
attribute [local go_sem] max2_int min2_int max_two min_two max_three min_three max_four min_four
set_option linter.unusedVariables false
set_option linter.unusedSimpArgs false


open Go.Sort (pdq SWO PermIn SortedIn HoldsK flatK size_flatK get_flatK putRowK putRow mapBlock putCells onCells)
instance : Inhabited S54 := ⟨z54⟩
def encR (x : S54) : List Value := [.int .i64 x.f0, .int .i64 x.f1]
def cfR (x y : S54) : Int := Lib.compareInt x.f0 y.f0
theorem ltR (x y : S54) : ltOf cfR x y = decide (x.f0 < y.f0) := by
  unfold ltOf cfR Lib.compareInt
  by_cases h1 : x.f0 < y.f0
  · simp [h1]
  · by_cases h2 : y.f0 < x.f0 <;> simp [h1, h2]
theorem swoR : SWO (ltOf cfR) where
  irrefl x := by rw [ltR]; simp
  trans x y z h1 h2 := by rw [ltR] at *; simp at *; omega
  ntrans x y z h1 h2 := by rw [ltR] at *; simp at *; omega
/-- The ranges, sorted as Go's sort lays them. -/
def sortF (l : List S54) : List S54 := (pdq (ltOf cfR) l.toArray 0 l.toArray.size (Lib.bitLen l.toArray.size) true true).toList
theorem sortF_perm (l : List S54) : (sortF l).Perm l ∧ (sortF l).Pairwise (fun a b => a.f0 ≤ b.f0) ∧ (sortF l).length = l.length := by
  have h := Go.Sort.pdq_sorts (ltOf cfR) swoR l.toArray 0 l.toArray.size (Lib.bitLen l.toArray.size) true true (Nat.zero_le _) (Nat.le_refl _) (Or.inl rfl)
  have hs : (pdq (ltOf cfR) l.toArray 0 l.toArray.size (Lib.bitLen l.toArray.size) true true).size = l.toArray.size := h.1.1
  refine ⟨?_, ?_, by simpa [sortF] using hs⟩
  · have hp := h.1.2.2
    have e1 : (l.toArray.extract 0 l.toArray.size).toList = l := by simp
    have ex : ∀ (A : Array S54) (n : Nat), A.size = n → (A.extract 0 n).toList = A.toList := by
      intro A n h
      subst h
      simp
    have e2 := ex _ _ hs
    rw [e1, e2] at hp
    exact hp
  · rw [List.pairwise_iff_getElem]
    intro i j hi hj hij
    have h3 := h.2 i j (Nat.zero_le _) hij (by have := hj; simp only [sortF, Array.length_toList] at this; omega)
    have hj' : j < (pdq (ltOf cfR) l.toArray 0 l.toArray.size (Lib.bitLen l.toArray.size) true true).size := by simpa [sortF] using hj
    have hi' : i < (pdq (ltOf cfR) l.toArray 0 l.toArray.size (Lib.bitLen l.toArray.size) true true).size := by omega
    rw [ltR, getElem!_pos _ j hj', getElem!_pos _ i hi'] at h3
    have h4 := of_decide_eq_false h3
    simp only [sortF, Array.getElem_toList]
    omega

set_option maxHeartbeats 1000000 in
theorem less_calls (x y : S54) (W : World) : Calls Try.prog 40 #[.agg #[.int .i64 x.f0, .int .i64 x.f1], .agg #[.int .i64 y.f0, .int .i64 y.f1]] W fun e w' => e = .returned (.int .i64 (cfR x y)) ∧ ∃ q os', w' = Go.Sort.grow (W.drewN q) os' := by
  have hcon := fun W' => Try.cmp_Compare_int x.f0 y.f0 W'
  unfold cfR
  generalize Lib.compareInt x.f0 y.f0 = r at hcon ⊢
  go_enter Try.func40, Try.ntmps40
  go_wp2_with (go_at_call 41; refine (hcon _).mono ?_; rintro e w' ⟨rfl, rfl⟩)
  go_ret
  exact ⟨rfl, 0, _, by rw [Go.Sort.alloc_eq_grow, Go.Sort.alloc_eq_grow, Go.Sort.grow_grow]; rfl⟩
theorem cmpLays40 (blk off size : Nat) (w : World) : CmpLays Try.prog 40 #[] encR 2 cfR blk off size w := fun _ _ _ _ x y => less_calls x y _

theorem flat_get (l : List S54) (t : Nat) (ht : t < l.length * 2) : (flatK encR 2 l.toArray)[t]! = (encR (l[t / 2]'(by omega)))[t % 2]! := by
  rw [get_flatK _ _ _ _ (by simpa using ht)]
  have h : t / 2 < l.length := by omega
  rw [getElem!_pos l.toArray _ (by simpa using h)]
  simp
theorem flat_inner {R : S54 → List Value → Prop} (hR : ∀ p c, R p c → c = encR p) {l : List S54} {inner : List Value} (h : Reps R 2 l inner) : inner = (flatK encR 2 l.toArray).toList := by
  have hs : (flatK encR 2 l.toArray).toList.length = l.length * 2 := by simp
  refine List.ext_getElem (by rw [h.1, hs]) fun t h1 h2 => ?_
  have ht : t < l.length * 2 := by rw [← h.1]; exact h1
  have hj : t / 2 < l.length := by omega
  have h3 := hR _ _ (h.2 (t / 2) _ (List.getElem?_eq_getElem hj))
  have h4 : ((inner.drop (t / 2 * 2)).take 2)[t % 2]? = (encR l[t / 2])[t % 2]? := by rw [h3]
  rw [List.getElem?_take_of_lt (Nat.mod_lt _ (by omega)), List.getElem?_drop, show t / 2 * 2 + t % 2 = t by omega, List.getElem?_eq_getElem h1] at h4
  have h5 : (flatK encR 2 l.toArray).toList[t] = (flatK encR 2 l.toArray)[t]! := by
    rw [getElem!_pos _ t (by simpa using ht)]; simp
  rw [h5, flat_get l t ht]
  have h6 : (encR l[t / 2])[t % 2]! = ((encR l[t / 2])[t % 2]?).getD default := by simp
  rw [h6, ← h4]
  rfl
theorem inner_flat (R : S54 → List Value → Prop) (hR : ∀ p, R p (encR p)) (l : List S54) : Reps R 2 l (flatK encR 2 l.toArray).toList := by
  refine ⟨by simp, fun j p hj => ?_⟩
  obtain ⟨hl, rfl⟩ := List.getElem?_eq_some_iff.1 hj
  have he : (((flatK encR 2 l.toArray).toList.drop (j * 2)).take 2) = encR l[j] := by
    apply List.ext_getElem?
    intro i
    rcases Nat.lt_or_ge i 2 with hi | hi
    · rw [List.getElem?_take_of_lt hi, List.getElem?_drop, Array.getElem?_toList]
      have ht : j * 2 + i < l.length * 2 := by omega
      have hg := flat_get l (j * 2 + i) ht
      rw [getElem!_pos _ _ (by simpa using ht)] at hg
      rw [Array.getElem?_eq_getElem (by simpa using ht), hg]
      have e1 : (j * 2 + i) / 2 = j := by omega
      have e2 : (j * 2 + i) % 2 = i := by omega
      simp only [e1, e2]
      rcases i with _ | _ | i
      · rfl
      · rfl
      · omega
    · rw [List.getElem?_take_eq_none (by omega), List.getElem?_eq_none (by simp [encR]; omega)]
  rw [he]
  exact hR _
theorem take_flat (cur F : Array Value) (h : F.size ≤ cur.size) : (putCells id 0 F cur).toList.take F.size = F.toList := by
  apply List.ext_getElem?
  intro j
  by_cases hj : j < F.size
  · rw [List.getElem?_take_of_lt hj, Array.getElem?_toList]
    simp [putCells, hj, show j < cur.size by omega]
  · rw [List.getElem?_take_eq_none (by omega), List.getElem?_eq_none (by simp; omega)]
theorem sorted_row {w : World} {base g cap n : Nat} {ok : Nat → Prop} {l l' : List S54} {os : Array Obj} (h : k54.R 54 w base ok (.slice (some ⟨g, 0, none⟩) l.length cap) l) (hl : l'.length = l.length) :
    k54.R 54 (sortWorldK encR 2 w g 0 n l'.toArray os) base ok (.slice (some ⟨g, 0, none⟩) l.length cap) l' ∧ w.grownBy (sortWorldK encR 2 w g 0 n l'.toArray os) (some g) := by
  obtain ⟨h0, inner, ⟨hi1, hi2⟩, hr⟩ := h
  constructor
  · refine ⟨h0, _, ⟨?_, ?_⟩, inner_flat _ (fun p => k54_mkM _ _ _ p) l'⟩
    · show _ = _ * 2
      simp
    · rcases hi2 with ⟨hv, _⟩ | ⟨g', cap', cur, hv, hg, hb, hnc, hcm, hcs, htk⟩
      · cases hv
      · cases hv
        have hcs' : cur.size = cap * 2 := hcs
        refine .inr ⟨g, cap, putCells id 0 (flatK encR 2 l'.toArray) cur, by rw [hl], hg, ?_, by omega, hcm, by simp [putCells, hcs], ?_⟩
        · have hgl : g < w.heap.size := blk_lt hb
          unfold sortWorldK
          rw [Go.Sort.heap_grow_old _ _ (by simpa [putRowK, putRow, mapBlock, Go.Sort.ahead] using hgl)]
          simp [putRowK, putRow, mapBlock, Go.Sort.ahead, Array.getElem?_modify, hb, Go.Sort.onCells]
        · have := take_flat cur (flatK encR 2 l'.toArray) (by simp; omega)
          have this' : List.take (l'.length * 2) (putCells id 0 (flatK encR 2 l'.toArray) cur).toList = (flatK encR 2 l'.toArray).toList := by simpa using this
          exact this'
  · refine ⟨rfl, rfl, rfl, by simp [sortWorldK, putRowK, putRow, mapBlock, Go.Sort.ahead], fun k hk hne => ?_⟩
    unfold sortWorldK
    rw [Go.Sort.heap_grow_old _ _ (by simpa [putRowK, putRow, mapBlock, Go.Sort.ahead] using hk)]
    have : g ≠ k := fun e => hne (by rw [e])
    simp [putRowK, putRow, mapBlock, Go.Sort.ahead, Array.getElem?_modify, this]
theorem row_holds {w : World} {base g cap : Nat} {ok : Nat → Prop} {l : List S54} (h : k54.R 54 w base ok (.slice (some ⟨g, 0, none⟩) l.length cap) l) (hn : 0 < l.length) : HoldsK encR 2 w g 0 l.toArray ∧ g < w.heap.size := by
  obtain ⟨h0, inner, ⟨hi1, hi2⟩, hr⟩ := h
  rcases hi2 with ⟨hv, _⟩ | ⟨g', cap', cur, hv, hg, hb, hnc, hcm, hcs, htk⟩
  · cases hv
  · cases hv
    have hF := flat_inner (fun p c hc => k54_openM hc) hr
    refine ⟨fun j hj => ⟨?_, blk_frozen hb _⟩, blk_lt hb⟩
    have hj' : j < l.length * 2 := by simpa using hj
    rw [blk_cell hb, Nat.zero_add, ← Array.getElem?_toList]
    have h2 : (cur.toList.take (l.length * 2))[j]? = (flatK encR 2 l.toArray).toList[j]? := by rw [← hF, ← htk]; rfl
    rw [List.getElem?_take_of_lt hj'] at h2
    rw [h2, Array.getElem?_toList, getElem!_pos _ j hj, Array.getElem?_eq_getElem hj]
    rfl
/-- slices.SortFunc, of a row of our own that is not empty. -/
theorem sort_calls (base : Nat) (ok : Nat → Prop) (v : Value) (l : List S54) (w : World) (h : k54.R 54 w base ok v l) (hn : 0 < l.length) (hm : l.length ≤ 8796093021952) :
    Calls Try.prog 39 #[v, .func (.func 40) #[] #[]] w fun e w' => e = .returned (.tuple #[]) ∧ k54.R 54 w' base ok v (sortF l) ∧ w.grownBy w' v.ownBlock := by
  obtain ⟨g, cap, rfl, _⟩ := Kd.R_form h hn
  obtain ⟨hH, hg⟩ := row_holds h hn
  have hc := AnyQ.slices_SortFunc_eq Try.sortRange 2 Try.isAgg54 Try.sizeOf54 encR (fun _ => rfl) (fun x v hv => by simp [encR] at hv; rcases hv with rfl | rfl <;> rfl) cfR swoR 40 #[] g 0 cap l.toArray w (enters_of Try.func40 (by kernel_rfl) rfl) (cmpLays40 _ _ _ _) hH hg (by simp; omega)
  have e1 : (l.toArray.size : Nat) = l.length := by simp
  rw [e1] at hc
  refine hc.mono ?_
  rintro e w' ⟨rfl, n, os, rfl⟩
  have e2 : pdq (ltOf cfR) l.toArray 0 l.length (Lib.bitLen l.length) true true = (sortF l).toArray := by simp [sortF]
  rw [e2]
  exact ⟨rfl, sorted_row h (sortF_perm l).2.2⟩
end Go.Proofs.Ytbgfobdlnlkfiaa.A
/- rx.Merge: the ranges, clamped, sorted and merged. -/
namespace Go.Proofs.Ytbgfobdlnlkfiaa.A
open Go.RowKit Go.Proofs.YtbgfobdlnlkfiaaW.PrintWords Go.Proofs.YtbgfobdlnlkfiaaW.PrintLast Go.Proofs.YtbgfobdlnlkfiaaW.PrintMore
attribute [local go_sem] max2_int min2_int max_two min_two max_three min_three max_four min_four
set_option linter.unusedVariables false
set_option linter.unusedSimpArgs false


def clamp1 (r : S54) : S54 := ⟨max r.f0 0, min r.f1 1114111⟩
def clampF (l : List S54) : List S54 := (l.map clamp1).filter (fun r => decide (r.f0 ≤ r.f1))
/-- One range more: into the last one, or behind it. -/
def joinF (out : List S54) (r : S54) : List S54 :=
  if 0 < out.length ∧ r.f0 ≤ (rd_T54 out ((out.length : Int) - 1)).f1 + 1 then out.set (out.length - 1) { rd_T54 out ((out.length : Int) - 1) with f1 := max (rd_T54 out ((out.length : Int) - 1)).f1 r.f1 } else out ++ [r]
def mergeF (l : List S54) : List S54 := (sortF (clampF l)).foldl joinF []
theorem clampF_le (l : List S54) : (clampF l).length ≤ l.length := Nat.le_trans (List.length_filter_le _ _) (by simp)
theorem rd54_get (l : List S54) (j : Nat) (h : j < l.length) : rd_T54 l (j : Int) = l[j] := by simp [rd_T54, h]
theorem clampF_succ (l : List S54) (j : Nat) (h : j < l.length) : clampF (l.take (j + 1)) = if max (rd_T54 l (j : Int)).f0 0 ≤ min (rd_T54 l (j : Int)).f1 1114111 then clampF (l.take j) ++ [⟨max (rd_T54 l (j : Int)).f0 0, min (rd_T54 l (j : Int)).f1 1114111⟩] else clampF (l.take j) := by
  rw [rd54_get l j h, List.take_succ_eq_append_getElem h]
  unfold clampF
  rw [List.map_append, List.filter_append]
  by_cases hc : max l[j].f0 0 ≤ min l[j].f1 1114111
  · rw [if_pos hc]; simp [clamp1, hc]
  · rw [if_neg hc]; simp only [List.map_cons, List.map_nil, List.filter_cons, clamp1, hc, decide_false, Bool.false_eq_true, if_false, List.filter_nil, List.append_nil]
theorem joinF_le (out : List S54) (r : S54) : (joinF out r).length ≤ out.length + 1 := by
  unfold joinF
  split <;> simp
theorem foldl_join_le (l out : List S54) : (l.foldl joinF out).length ≤ out.length + l.length := by
  induction l generalizing out with
  | nil => simp
  | cons a l ih => have h1 := ih (joinF out a); have h2 := joinF_le out a; simp only [List.foldl_cons, List.length_cons]; omega
theorem mergeF_le (l : List S54) : (mergeF l).length ≤ l.length := by
  have h1 := foldl_join_le (sortF (clampF l)) []
  have h2 := (sortF_perm (clampF l)).2.2
  have h3 := clampF_le l
  unfold mergeF
  simp only [List.length_nil] at h1
  omega
/-- Every end within the characters' bounds. -/
def In (l : List S54) : Prop := ∀ r ∈ l, 0 ≤ r.f0 ∧ r.f0 ≤ 1114111 ∧ 0 ≤ r.f1 ∧ r.f1 ≤ 1114111
theorem In.clamp (l : List S54) : In (clampF l) := by
  intro r hr
  unfold clampF at hr
  rw [List.mem_filter] at hr
  obtain ⟨h1, h2⟩ := hr
  obtain ⟨q, _, rfl⟩ := List.mem_map.1 h1
  have h3 := of_decide_eq_true h2
  simp only [clamp1] at h3 ⊢
  omega
theorem In.sort (l : List S54) : In (sortF (clampF l)) := fun r hr => In.clamp l r ((sortF_perm _).1.mem_iff.1 hr)
theorem In.rd {l : List S54} (h : In l) (i : Int) (h0 : 0 ≤ i) (h1 : i < l.length) : 0 ≤ (rd_T54 l i).f0 ∧ (rd_T54 l i).f0 ≤ 1114111 ∧ 0 ≤ (rd_T54 l i).f1 ∧ (rd_T54 l i).f1 ≤ 1114111 := by
  have hl : i.toNat < l.length := by omega
  have e : rd_T54 l i = l[i.toNat] := by simp [rd_T54, hl]
  rw [e]
  exact h _ (List.getElem_mem hl)
theorem In.join {out : List S54} {r : S54} (h : In out) (hr : 0 ≤ r.f0 ∧ r.f0 ≤ 1114111 ∧ 0 ≤ r.f1 ∧ r.f1 ≤ 1114111) : In (joinF out r) := by
  unfold joinF
  split
  · rename_i hc
    intro q hq
    rcases List.mem_or_eq_of_mem_set hq with hq | rfl
    · exact h q hq
    · have := h.rd ((out.length : Int) - 1) (by omega) (by omega)
      simp only
      omega
  · intro q hq
    rcases List.mem_append.1 hq with hq | hq
    · exact h q hq
    · rw [List.mem_singleton.1 hq]; exact hr
theorem In.fold {l out : List S54} (h : In out) (hl : In l) : In (l.foldl joinF out) := by
  induction l generalizing out with
  | nil => exact h
  | cons a l ih => exact ih (h.join (hl a (List.mem_cons_self))) (fun r hr => hl r (List.mem_cons_of_mem _ hr))
theorem foldl_take_succ (l : List S54) (j : Nat) (h : j < l.length) : (l.take (j + 1)).foldl joinF [] = joinF ((l.take j).foldl joinF []) (rd_T54 l (j : Int)) := by
  rw [rd54_get l j h, List.take_succ_eq_append_getElem h, List.foldl_append]
  rfl
theorem joinF_nil (r : S54) : joinF [] r = [r] := by simp [joinF]
end Go.Proofs.Ytbgfobdlnlkfiaa.A
/- rx.Merge: the walk. -/
namespace Go.Proofs.Ytbgfobdlnlkfiaa.A
open Go.RowKit Go.Proofs.YtbgfobdlnlkfiaaW.PrintWords Go.Proofs.YtbgfobdlnlkfiaaW.PrintLast Go.Proofs.YtbgfobdlnlkfiaaW.PrintMore
theorem max2_i (k k' : IntKind) (x y : Int) : Builtin.max2 (.int k x) (.int k' y) = pure (.int k (max x y)) := by
  rw [max2_int]
  congr 2
  split <;> omega
theorem min2_i (k k' : IntKind) (x y : Int) : Builtin.min2 (.int k x) (.int k' y) = pure (.int k (min x y)) := by
  rw [min2_int]
  congr 2
  split <;> omega
attribute [local go_sem] max2_i min2_i max_two min_two
set_option linter.unusedVariables false
set_option linter.unusedSimpArgs false

theorem joinF_pos (out : List S54) (r : S54) (m : Nat) (h : out.length = m + 1) : joinF out r = if r.f0 ≤ (rd_T54 out (m : Int)).f1 + 1 then out.set m { rd_T54 out (m : Int) with f1 := max (rd_T54 out (m : Int)).f1 r.f1 } else out ++ [r] := by
  have e : (out.length : Int) - 1 = m := by omega
  have e2 : out.length - 1 = m := by omega
  unfold joinF
  rw [e, e2]
  simp [h]
theorem sort_all (base : Nat) (ok : Nat → Prop) (v : Value) (l : List S54) (w : World) (h : k54.R 54 w base ok v l) (hm : l.length ≤ 8796093021952) :
    Calls Try.prog 39 #[v, .func (.func 40) #[] #[]] w fun e w' => e = .returned (.tuple #[]) ∧ k54.R 54 w' base ok v (sortF l) ∧ w.grownBy w' v.ownBlock := by
  rcases Nat.eq_zero_or_pos l.length with h0 | h0
  · have hl : sortF l = l := by
      have h1 := (sortF_perm l).2.2
      rw [h0] at h1
      rw [List.eq_nil_of_length_eq_zero h1, List.eq_nil_of_length_eq_zero h0]
    obtain ⟨A, c, rfl⟩ := Kd.R_slice h
    rw [h0] at h ⊢
    refine (AnyF.slices_SortFunc_none Try.sortRange A c (.func (.func 40) #[] #[]) w).mono ?_
    rintro e w' ⟨rfl, rfl⟩
    rw [hl]
    exact ⟨rfl, h, rfl, rfl, rfl, Nat.le_refl _, fun _ _ _ => rfl⟩
  · exact sort_calls base ok v l w h h0 hm
/-- The last range of the row is written. -/
theorem join_set {w : World} {base gr cr : Nat} {xs : List S54} {ok : Nat → Prop} (h : k54.R 54 w base ok (.slice (some ⟨gr, 0, none⟩) xs.length cr) xs) (n : Nat) (hn : n < xs.length) (y : Int) :
    k54.R 54 (w.setCell ⟨gr, n * 2 + 1, none⟩ (.int .i64 y)) base ok (.slice (some ⟨gr, 0, none⟩) xs.length cr) (xs.set n { rd_T54 xs n with f1 := y }) := by
  obtain ⟨cE, hcl, hM, hcc, _⟩ := Kd.R_elem h z54 (n : Int) (by omega) (by omega)
  obtain rfl := k54_openM hM
  exact (Kd.R_seg h (n : Int) (by omega) (by omega) (seg := [.int .i64 y]) (j := 1) hcl hcc (show _ ≤ 2 by simp) (x' := { rd_T54 xs n with f1 := y }) (okp := fun k => ok k ∧ k ≠ gr) (k54_mkM w base _ { rd_T54 xs n with f1 := y }) (fun k hk => hk)).1

set_option maxHeartbeats 16000000 in
set_option maxRecDepth 100000 in
theorem merge_calls (A : Option Addr) (c : Nat) (l : List S54) (w : World) (hr : k54.C w A l.length l) (hc : l.length ≤ c) (hm : l.length ≤ 8796093021952) :
    Calls Try.prog 21 #[.slice A l.length c] w fun e w' => ∃ v', e = .returned v' ∧ k54.R 54 w' w.heap.size (fun _ => True) v' (mergeF l) ∧ Below w.heap.size w w' := by
  have hu54 := Try.underlying54
  have hmf : ∀ (fn : Fn) (first cap : Array Value) (w : World), (Instr.makeFunc fn first cap).run Try.prog w = .ok (.func fn first cap) w := fun _ _ _ _ => rfl
  have HR := Aside0.mk hr
  have HC := Aside0.mk hc
  clear hr hc
  go_enter Try.func21, Try.ntmps21
  go_wp2
  go_loopg [3, 12] l.length (fun kq v3 v12 w' => ∃ (j : Nat) (v : Value), v3 = v ∧ v12 = .int .i64 j ∧ Aside0 (j ≤ l.length ∧ kq = l.length - j) ∧ Aside0 (k54.R 54 w' w.heap.size (fun _ => True) v (clampF (l.take j))) ∧ Aside0 (Below w.heap.size w w'))
  case atStart => exact ⟨0, _, rfl, rfl, ⟨by omega, by omega⟩, ⟨Kd.R_nil _ _ _ _ _⟩, ⟨Below.refl _ _⟩⟩
  case round =>
    obtain ⟨j, v, rfl, rfl, HJ, HRJ, HBJ⟩ := hrel
    obtain ⟨A3, c3, rfl⟩ := Kd.R_slice HRJ.out
    by_cases hlt : j < l.length
    · have HJL := Aside0.mk hlt
      have hlx : (j : Int) < (l.length : Int) := by omega
      obtain ⟨ad, e_, hx0_, hx1_⟩ := at_T54 HR.out (j : Int) (by omega) (by omega)
      cases e_
      simp only [Int.toNat_natCast] at hx0_ hx1_
      replace hx0_ := (HBJ.out.cell (World.block_lt_of_cell? w _ hx0_)).trans hx0_
      replace hx1_ := (HBJ.out.cell (World.block_lt_of_cell? w _ hx1_)).trans hx1_
      have HLJ := Aside0.mk (show (clampF (l.take j)).length + 1 ≤ 8796093021952 from by have h1 := clampF_le (l.take j); rw [List.length_take] at h1; omega)
      clear hlt
      by_cases hcl : max (rd_T54 l (j : Int)).f0 0 ≤ min (rd_T54 l (j : Int)).f1 1114111
      · have HCL := Aside0.mk hcl
        go_wp2_with (first | ((with_reducible refine gate_dst (N := 5) rfl ?_); refine box_event ?hg (N := 5) ?hd (cs := #[.int .i64 0, .int .i64 0]) (t := 54) ?hr ?_; (case hd => rfl); (case hg => rfl); (case hr => first | (go_simp; done) | (go_simp; rfl)); intro g5 hgx_ w1 hbox hb; have HG_g5 := Aside0.mk hgx_; clear hgx_; have HYB := Aside0.mk hbox; have HBY := Aside0.mk hb; have GEY : Aside0 (wr.heap.size ≤ g5) := ⟨by have := HG_g5.out; omega⟩; have hf0 := blk_frozen hbox 0; have hf1 := blk_frozen hbox 1; have h50 : w1.cell? ⟨g5, 0, none⟩ = some (.int .i64 0) := (blk_cell hbox 0).trans rfl; have h51 : w1.cell? ⟨g5, 1, none⟩ = some (.int .i64 0) := (blk_cell hbox 1).trans rfl; replace hx0_ := (HBY.out.cell (World.block_lt_of_cell? wr _ hx0_)).trans hx0_; replace hx1_ := (HBY.out.cell (World.block_lt_of_cell? wr _ hx1_)).trans hx1_; clear hb hbox) | ((with_reducible refine gate_dst (N := 24) rfl ?_); have BK2 := Aside0.mk (blk_set (blk_set (blk_set (blk_set HYB.out 0 (.int .i64 (rd_T54 l (j : Int)).f0)) 1 (.int .i64 (rd_T54 l (j : Int)).f1)) 0 (.int .i64 (max (rd_T54 l (j : Int)).f0 0))) 1 (.int .i64 (min (rd_T54 l (j : Int)).f1 1114111))); have HB2 : Aside0 (Below wr.heap.size wr ((((w1.setCell ⟨g5, 0, none⟩ (.int .i64 (rd_T54 l (j : Int)).f0)).setCell ⟨g5, 1, none⟩ (.int .i64 (rd_T54 l (j : Int)).f1)).setCell ⟨g5, 0, none⟩ (.int .i64 (max (rd_T54 l (j : Int)).f0 0))).setCell ⟨g5, 1, none⟩ (.int .i64 (min (rd_T54 l (j : Int)).f1 1114111)))) := ⟨(by repeat (first | (with_reducible exact HBY.out) | (with_reducible refine below_set ?_ GEY.out)))⟩; clear HYB hf0 hf1 h50 h51 hx0_ hx1_; generalize ((((w1.setCell ⟨g5, 0, none⟩ (.int .i64 (rd_T54 l (j : Int)).f0)).setCell ⟨g5, 1, none⟩ (.int .i64 (rd_T54 l (j : Int)).f1)).setCell ⟨g5, 0, none⟩ (.int .i64 (max (rd_T54 l (j : Int)).f0 0))).setCell ⟨g5, 1, none⟩ (.int .i64 (min (rd_T54 l (j : Int)).f1 1114111))) = w2 at BK2 HB2 ⊢; have h20 : w2.cell? ⟨g5, 0, none⟩ = some (.int .i64 (max (rd_T54 l (j : Int)).f0 0)) := (blk_cell BK2.out 0).trans rfl; have h21 : w2.cell? ⟨g5, 1, none⟩ = some (.int .i64 (min (rd_T54 l (j : Int)).f1 1114111)) := (blk_cell BK2.out 1).trans rfl) | ((with_reducible refine gate_dst (N := 32) rfl ?_); refine Kd.R_append k54 (W := w2) (w0 := w) w.heap.size (by rfl) _ _ 23 54 _ 16 (by rfl) Try.underlying23 info54 rfl (by decide) (by decide) (.slice A3 (clampF (l.take j)).length c3) (clampF (l.take j)) ⟨max (rd_T54 l (j : Int)).f0 0, min (rd_T54 l (j : Int)).f1 1114111⟩ [.int .i64 (max (rd_T54 l (j : Int)).f0 0), .int .i64 (min (rd_T54 l (j : Int)).f1 1114111)] (fun _ => True) (fun _ => False) (by rfl) (by rfl) (k54_mkM _ _ _ _) (fun _ h => h.elim) (fun _ _ => trivial) (Kd.R_below HRJ.out HB2.out) (below_then HBJ.out HBJ.out.size HB2.out) (Nat.le_trans HBJ.out.size HB2.out.size) (by have h1 := HLJ.out; omega) ?_; intro v3 w3 hR3 hB3 hG3 hat3; have HR3 := Aside0.mk hR3; have HB3 := Aside0.mk hB3; clear hR3 hB3 hG3 hat3))
        go_roundg (l.length - (j + 1))
        case measure => have h1 := HJ.out; have h2 := HJL.out; omega
        case rel => exact ⟨j + 1, v3, rfl, by go_num, ⟨HJL.out, rfl⟩, ⟨by rw [clampF_succ l j HJL.out, if_pos HCL.out]; exact HR3.out⟩, HB3⟩
      · have HCL := Aside0.mk hcl
        go_wp2_with (first | ((with_reducible refine gate_dst (N := 5) rfl ?_); refine box_event ?hg (N := 5) ?hd (cs := #[.int .i64 0, .int .i64 0]) (t := 54) ?hr ?_; (case hd => rfl); (case hg => rfl); (case hr => first | (go_simp; done) | (go_simp; rfl)); intro g5 hgx_ w1 hbox hb; have HG_g5 := Aside0.mk hgx_; clear hgx_; have HYB := Aside0.mk hbox; have HBY := Aside0.mk hb; have GEY : Aside0 (wr.heap.size ≤ g5) := ⟨by have := HG_g5.out; omega⟩; have hf0 := blk_frozen hbox 0; have hf1 := blk_frozen hbox 1; have h50 : w1.cell? ⟨g5, 0, none⟩ = some (.int .i64 0) := (blk_cell hbox 0).trans rfl; have h51 : w1.cell? ⟨g5, 1, none⟩ = some (.int .i64 0) := (blk_cell hbox 1).trans rfl; replace hx0_ := (HBY.out.cell (World.block_lt_of_cell? wr _ hx0_)).trans hx0_; replace hx1_ := (HBY.out.cell (World.block_lt_of_cell? wr _ hx1_)).trans hx1_; clear hb hbox) | ((with_reducible refine gate_dst (N := 24) rfl ?_); have BK2 := Aside0.mk (blk_set (blk_set (blk_set (blk_set HYB.out 0 (.int .i64 (rd_T54 l (j : Int)).f0)) 1 (.int .i64 (rd_T54 l (j : Int)).f1)) 0 (.int .i64 (max (rd_T54 l (j : Int)).f0 0))) 1 (.int .i64 (min (rd_T54 l (j : Int)).f1 1114111))); have HB2 : Aside0 (Below wr.heap.size wr ((((w1.setCell ⟨g5, 0, none⟩ (.int .i64 (rd_T54 l (j : Int)).f0)).setCell ⟨g5, 1, none⟩ (.int .i64 (rd_T54 l (j : Int)).f1)).setCell ⟨g5, 0, none⟩ (.int .i64 (max (rd_T54 l (j : Int)).f0 0))).setCell ⟨g5, 1, none⟩ (.int .i64 (min (rd_T54 l (j : Int)).f1 1114111)))) := ⟨(by repeat (first | (with_reducible exact HBY.out) | (with_reducible refine below_set ?_ GEY.out)))⟩; clear HYB hf0 hf1 h50 h51 hx0_ hx1_; generalize ((((w1.setCell ⟨g5, 0, none⟩ (.int .i64 (rd_T54 l (j : Int)).f0)).setCell ⟨g5, 1, none⟩ (.int .i64 (rd_T54 l (j : Int)).f1)).setCell ⟨g5, 0, none⟩ (.int .i64 (max (rd_T54 l (j : Int)).f0 0))).setCell ⟨g5, 1, none⟩ (.int .i64 (min (rd_T54 l (j : Int)).f1 1114111))) = w2 at BK2 HB2 ⊢; have h20 : w2.cell? ⟨g5, 0, none⟩ = some (.int .i64 (max (rd_T54 l (j : Int)).f0 0)) := (blk_cell BK2.out 0).trans rfl; have h21 : w2.cell? ⟨g5, 1, none⟩ = some (.int .i64 (min (rd_T54 l (j : Int)).f1 1114111)) := (blk_cell BK2.out 1).trans rfl))
        go_roundg (l.length - (j + 1))
        case measure => have h1 := HJ.out; have h2 := HJL.out; omega
        case rel => exact ⟨j + 1, _, rfl, by go_num, ⟨HJL.out, rfl⟩, ⟨by rw [clampF_succ l j HJL.out, if_neg (by have := HCL.out; omega)]; exact Kd.R_below HRJ.out HB2.out⟩, ⟨below_then HBJ.out HBJ.out.size HB2.out⟩⟩
    · have hje : j = l.length := by have := HJ.out; omega
      subst hje
      rw [List.take_length] at HRJ ⊢
      have HLC := Aside0.mk (clampF_le l)
      obtain ⟨n, hn⟩ : ∃ n, n = (clampF l).length := ⟨_, rfl⟩
      obtain ⟨S, hS⟩ : ∃ S, S = sortF (clampF l) := ⟨_, rfl⟩
      have HLS := Aside0.mk (show S.length = n from by rw [hS, (sortF_perm _).2.2, hn])
      have HIN := Aside0.mk (show In S from by rw [hS]; exact In.sort l)
      have HNM := Aside0.mk (show n ≤ 8796093021952 from by have := HLC.out; omega)
      have HS := Aside0.mk hS
      rw [← hn] at HRJ ⊢
      clear hS hlt hn
      have hnm : n ≤ 8796093021952 := HNM.out
      obtain ⟨wo, hwo⟩ : ∃ wo, wo = wr := ⟨_, rfl⟩
      subst hwo
      go_wp2_with (first | (go_at_call 39; refine (sort_all _ _ _ _ wo HRJ.out (by have := HLC.out; omega)).mono ?_; rintro e w2 ⟨rfl, hS2, hG2⟩; rw [← HS.out] at hS2; have HC2 := Aside0.mk (show k54.C w2 A3 n S from by obtain ⟨A', c', e', _, hC⟩ := Kd.R_reads hS2; injection e' with e1 e2 e3; rw [HLS.out] at hC; rw [e1]; exact hC); have HBW := Aside0.mk (HBJ.out.grown hG2 HBJ.out.size (fun k hk => Kd.R_base HRJ.out k hk)); clear hS2 hG2))
      go_loopg [6, 38] n (fun kq v6 v38 w' => ∃ (j : Nat) (v : Value), v6 = v ∧ v38 = .int .i64 j ∧ Aside0 (j ≤ n ∧ kq = n - j) ∧ Aside0 (k54.R 54 w' w2.heap.size (fun _ => True) v ((S.take j).foldl joinF [])) ∧ Aside0 (Below w2.heap.size w2 w'))
      case atStart => exact ⟨0, _, rfl, rfl, ⟨by omega, by omega⟩, ⟨Kd.R_nil _ _ _ _ _⟩, ⟨Below.refl _ _⟩⟩
      case round =>
        obtain ⟨j, v, rfl, rfl, HK, HRK, HBK⟩ := hrel
        by_cases hlt : j < n
        · have HJL := Aside0.mk hlt
          have hlx : (j : Int) < (n : Int) := by omega
          obtain ⟨ad, e_, hx0_, hx1_⟩ := at_T54 HC2.out (j : Int) (by omega) (by omega)
          cases e_
          simp only [Int.toNat_natCast] at hx0_ hx1_
          replace hx0_ := (HBK.out.cell (World.block_lt_of_cell? w2 _ hx0_)).trans hx0_
          replace hx1_ := (HBK.out.cell (World.block_lt_of_cell? w2 _ hx1_)).trans hx1_
          have HST := Aside0.mk (foldl_take_succ S j (by have := HLS.out; omega))
          have HOI := Aside0.mk (show In ((S.take j).foldl joinF []) from In.fold (fun r hr => by simp at hr) (fun r hr => HIN.out r (List.mem_of_mem_take hr)))
          have HOL := Aside0.mk (show ((S.take j).foldl joinF []).length + 1 ≤ 8796093021952 from by have h1 := foldl_join_le (S.take j) []; rw [List.length_take] at h1; simp only [List.length_nil] at h1; have := HNM.out; omega)
          have HEI := Aside0.mk (HIN.out.rd (j : Int) (by omega) (by have := HLS.out; omega))
          obtain ⟨O, hO⟩ : ∃ O, O = (S.take j).foldl joinF [] := ⟨_, rfl⟩
          rw [← hO] at HST HOI HOL HRK
          clear hlt hO
          rcases hm0 : O.length with _ | m
          · obtain rfl := List.eq_nil_of_length_eq_zero hm0
            obtain ⟨A6, c6, rfl⟩ := Kd.R_slice HRK.out
            clear hm0
            go_wp2_with (first | ((with_reducible refine gate_dst (N := 8) rfl ?_); refine box_event ?hg (N := 8) ?hd (cs := #[.int .i64 0, .int .i64 0]) (t := 54) ?hr ?_; (case hd => rfl); (case hg => rfl); (case hr => first | (go_simp; done) | (go_simp; rfl)); intro g8 hgx_ w3 hbox hb; have HG_g8 := Aside0.mk hgx_; clear hgx_; have HYB := Aside0.mk hbox; have HBY := Aside0.mk hb; have GEY : Aside0 (wr.heap.size ≤ g8) := ⟨by have := HG_g8.out; omega⟩; have hf0 := blk_frozen hbox 0; have hf1 := blk_frozen hbox 1; have h50 : w3.cell? ⟨g8, 0, none⟩ = some (.int .i64 0) := (blk_cell hbox 0).trans rfl; have h51 : w3.cell? ⟨g8, 1, none⟩ = some (.int .i64 0) := (blk_cell hbox 1).trans rfl; replace hx0_ := (HBY.out.cell (World.block_lt_of_cell? wr _ hx0_)).trans hx0_; replace hx1_ := (HBY.out.cell (World.block_lt_of_cell? wr _ hx1_)).trans hx1_; clear hb hbox) | ((with_reducible refine gate_dst (N := 43) rfl ?_); have BK4 := Aside0.mk (blk_set (blk_set HYB.out 0 (.int .i64 (rd_T54 S (j : Int)).f0)) 1 (.int .i64 (rd_T54 S (j : Int)).f1)); have HB4 : Aside0 (Below wr.heap.size wr ((w3.setCell ⟨g8, 0, none⟩ (.int .i64 (rd_T54 S (j : Int)).f0)).setCell ⟨g8, 1, none⟩ (.int .i64 (rd_T54 S (j : Int)).f1))) := ⟨(by repeat (first | (with_reducible exact HBY.out) | (with_reducible refine below_set ?_ GEY.out)))⟩; clear HYB hf0 hf1 h50 h51 hx0_ hx1_; generalize ((w3.setCell ⟨g8, 0, none⟩ (.int .i64 (rd_T54 S (j : Int)).f0)).setCell ⟨g8, 1, none⟩ (.int .i64 (rd_T54 S (j : Int)).f1)) = w4 at BK4 HB4 ⊢; have h20 : w4.cell? ⟨g8, 0, none⟩ = some (.int .i64 (rd_T54 S (j : Int)).f0) := (blk_cell BK4.out 0).trans rfl; have h21 : w4.cell? ⟨g8, 1, none⟩ = some (.int .i64 (rd_T54 S (j : Int)).f1) := (blk_cell BK4.out 1).trans rfl))
            go_quiet (fail); have HB5 := Aside0.mk (show Below wr.heap.size wr (w4.drewN nq) from ⟨HB4.out.os, HB4.out.tape, HB4.out.output, HB4.out.size, HB4.out.block⟩); have h50 : (w4.drewN nq).cell? ⟨g8, 0, none⟩ = some (.int .i64 (rd_T54 S (j : Int)).f0) := h20; have h51 : (w4.drewN nq).cell? ⟨g8, 1, none⟩ = some (.int .i64 (rd_T54 S (j : Int)).f1) := h21; clear h20 h21 BK4 HB4
            generalize w4.drewN nq = w5 at HB5 h50 h51 ⊢
            go_wp2_with (first | ((with_reducible refine gate_dst (N := 75) rfl ?_); refine Kd.R_append k54 (W := w5) (w0 := w2) w2.heap.size (by rfl) _ _ 23 54 _ 16 (by rfl) Try.underlying23 info54 rfl (by decide) (by decide) (.slice A6 0 c6) ([] : List S54) ⟨(rd_T54 S (j : Int)).f0, (rd_T54 S (j : Int)).f1⟩ [.int .i64 (rd_T54 S (j : Int)).f0, .int .i64 (rd_T54 S (j : Int)).f1] (fun _ => True) (fun _ => False) (by rfl) (by rfl) (k54_mkM _ _ _ _) (fun _ h => h.elim) (fun _ _ => trivial) (Kd.R_below HRK.out HB5.out) (below_then HBK.out HBK.out.size HB5.out) (Nat.le_trans HBK.out.size HB5.out.size) (by have h1 := HOL.out; omega) ?_; intro v6 w6 hR6 hB6 hG6 hat6; have HR6 := Aside0.mk hR6; have HB6 := Aside0.mk hB6; clear hR6 hB6 hG6 hat6))
            go_roundg (n - (j + 1))
            case measure => have h1 := HK.out; have h2 := HJL.out; omega
            case rel => exact ⟨j + 1, v6, rfl, by go_num, ⟨HJL.out, rfl⟩, ⟨by rw [HST.out, joinF_nil]; exact HR6.out⟩, HB6⟩
          · obtain ⟨gr, c6, rfl, _, _, cells, hcr⟩ := Kd.R_form HRK.out (by omega)
            obtain ⟨cE, hcl, hM, hcc, hfr⟩ := Kd.R_elem HRK.out z54 (m : Int) (by omega) (by omega)
            obtain rfl := k54_openM hM
            simp only [Int.toNat_natCast] at hcc hfr
            have HQ1 := Aside0.mk (show wr.cell? ⟨gr, m * 2 + 1, none⟩ = some (.int .i64 (rd_T54 O (m : Int)).f1) from hcc 1 _ rfl)
            have HQF := Aside0.mk hcr
            obtain ⟨q0, q1, q2, q3⟩ := HOI.out.rd (m : Int) (by omega) (by omega)
            obtain ⟨r0, r1, r2, r3⟩ := HEI.out
            clear hcl hM hcc hfr hcr
            have HJP := Aside0.mk (joinF_pos O (rd_T54 S (j : Int)) m hm0)
            have HM0 := Aside0.mk hm0
            have hmb : m ≤ 8796093021952 := by have := HOL.out; omega
            have hmi : (m : Int) < (m : Int) + 1 := by omega
            have hmn : 0 ≤ (m : Int) := by omega
            have HRK0 := HRK
            rw [hm0] at HRK ⊢
            clear hm0
            by_cases hj : (rd_T54 S (j : Int)).f0 ≤ (rd_T54 O (m : Int)).f1 + 1
            · have HJC := Aside0.mk hj
              go_wp2_with (first | ((with_reducible refine gate_dst (N := 8) rfl ?_); refine box_event ?hg (N := 8) ?hd (cs := #[.int .i64 0, .int .i64 0]) (t := 54) ?hr ?_; (case hd => rfl); (case hg => rfl); (case hr => first | (go_simp; done) | (go_simp; rfl)); intro g8 hgx_ w3 hbox hb; have HG_g8 := Aside0.mk hgx_; clear hgx_; have HYB := Aside0.mk hbox; have HBY := Aside0.mk hb; have GEY : Aside0 (wr.heap.size ≤ g8) := ⟨by have := HG_g8.out; omega⟩; have hf0 := blk_frozen hbox 0; have hf1 := blk_frozen hbox 1; have h50 : w3.cell? ⟨g8, 0, none⟩ = some (.int .i64 0) := (blk_cell hbox 0).trans rfl; have h51 : w3.cell? ⟨g8, 1, none⟩ = some (.int .i64 0) := (blk_cell hbox 1).trans rfl; replace hx0_ := (HBY.out.cell (World.block_lt_of_cell? wr _ hx0_)).trans hx0_; replace hx1_ := (HBY.out.cell (World.block_lt_of_cell? wr _ hx1_)).trans hx1_; clear hb hbox) | ((with_reducible refine gate_dst (N := 43) rfl ?_); have BK4 := Aside0.mk (blk_set (blk_set HYB.out 0 (.int .i64 (rd_T54 S (j : Int)).f0)) 1 (.int .i64 (rd_T54 S (j : Int)).f1)); have HB4 : Aside0 (Below wr.heap.size wr ((w3.setCell ⟨g8, 0, none⟩ (.int .i64 (rd_T54 S (j : Int)).f0)).setCell ⟨g8, 1, none⟩ (.int .i64 (rd_T54 S (j : Int)).f1))) := ⟨(by repeat (first | (with_reducible exact HBY.out) | (with_reducible refine below_set ?_ GEY.out)))⟩; clear HYB hf0 hf1 h50 h51 hx0_ hx1_; generalize ((w3.setCell ⟨g8, 0, none⟩ (.int .i64 (rd_T54 S (j : Int)).f0)).setCell ⟨g8, 1, none⟩ (.int .i64 (rd_T54 S (j : Int)).f1)) = w4 at BK4 HB4 ⊢; have h20 : w4.cell? ⟨g8, 0, none⟩ = some (.int .i64 (rd_T54 S (j : Int)).f0) := (blk_cell BK4.out 0).trans rfl; have h21 : w4.cell? ⟨g8, 1, none⟩ = some (.int .i64 (rd_T54 S (j : Int)).f1) := (blk_cell BK4.out 1).trans rfl))
              have hq1 : w4.cell? ⟨gr, m * 2 + 1, none⟩ = some (.int .i64 (rd_T54 O (m : Int)).f1) := pw_cell_below HB4.out HQ1.out
              go_quiet (fail); have HB5 := Aside0.mk (show Below wr.heap.size wr (w4.drewN nq) from ⟨HB4.out.os, HB4.out.tape, HB4.out.output, HB4.out.size, HB4.out.block⟩); have h50 : (w4.drewN nq).cell? ⟨g8, 0, none⟩ = some (.int .i64 (rd_T54 S (j : Int)).f0) := h20; have h51 : (w4.drewN nq).cell? ⟨g8, 1, none⟩ = some (.int .i64 (rd_T54 S (j : Int)).f1) := h21; clear h20 h21 BK4 HB4
              have hq2 : (w4.drewN nq).cell? ⟨gr, m * 2 + 1, none⟩ = some (.int .i64 (rd_T54 O (m : Int)).f1) := hq1
              have hqf : (w4.drewN nq).frozen? ⟨gr, m * 2 + 1, none⟩ = false := blk_frozen (blk_below HQF.out HB5.out) _
              clear hq1
              generalize w4.drewN nq = w5 at HB5 h50 h51 hq2 hqf ⊢
              go_wp2
              go_region
              go_wp2
              go_roundg (n - (j + 1))
              case measure => have h1 := HK.out; have h2 := HJL.out; omega
              case rel =>
                have h1 := join_set (Kd.R_below HRK0.out HB5.out) m (by have := HM0.out; omega) (max (rd_T54 O (m : Int)).f1 (rd_T54 S (j : Int)).f1)
                rw [HM0.out] at h1
                have h2 := below_set (g := gr) (j := m * 2 + 1) (v := .int .i64 (max (rd_T54 O (m : Int)).f1 (rd_T54 S (j : Int)).f1)) (below_then HBK.out HBK.out.size HB5.out) (Kd.R_base HRK0.out gr rfl)
                exact ⟨j + 1, _, rfl, by go_num, ⟨HJL.out, rfl⟩, ⟨by rw [HST.out, HJP.out, if_pos HJC.out]; exact Kd.R_drew h1⟩, ⟨h2.os, h2.tape, h2.output, h2.size, h2.block⟩⟩
            · have HJC := Aside0.mk hj
              go_wp2_with (first | ((with_reducible refine gate_dst (N := 8) rfl ?_); refine box_event ?hg (N := 8) ?hd (cs := #[.int .i64 0, .int .i64 0]) (t := 54) ?hr ?_; (case hd => rfl); (case hg => rfl); (case hr => first | (go_simp; done) | (go_simp; rfl)); intro g8 hgx_ w3 hbox hb; have HG_g8 := Aside0.mk hgx_; clear hgx_; have HYB := Aside0.mk hbox; have HBY := Aside0.mk hb; have GEY : Aside0 (wr.heap.size ≤ g8) := ⟨by have := HG_g8.out; omega⟩; have hf0 := blk_frozen hbox 0; have hf1 := blk_frozen hbox 1; have h50 : w3.cell? ⟨g8, 0, none⟩ = some (.int .i64 0) := (blk_cell hbox 0).trans rfl; have h51 : w3.cell? ⟨g8, 1, none⟩ = some (.int .i64 0) := (blk_cell hbox 1).trans rfl; replace hx0_ := (HBY.out.cell (World.block_lt_of_cell? wr _ hx0_)).trans hx0_; replace hx1_ := (HBY.out.cell (World.block_lt_of_cell? wr _ hx1_)).trans hx1_; clear hb hbox) | ((with_reducible refine gate_dst (N := 43) rfl ?_); have BK4 := Aside0.mk (blk_set (blk_set HYB.out 0 (.int .i64 (rd_T54 S (j : Int)).f0)) 1 (.int .i64 (rd_T54 S (j : Int)).f1)); have HB4 : Aside0 (Below wr.heap.size wr ((w3.setCell ⟨g8, 0, none⟩ (.int .i64 (rd_T54 S (j : Int)).f0)).setCell ⟨g8, 1, none⟩ (.int .i64 (rd_T54 S (j : Int)).f1))) := ⟨(by repeat (first | (with_reducible exact HBY.out) | (with_reducible refine below_set ?_ GEY.out)))⟩; clear HYB hf0 hf1 h50 h51 hx0_ hx1_; generalize ((w3.setCell ⟨g8, 0, none⟩ (.int .i64 (rd_T54 S (j : Int)).f0)).setCell ⟨g8, 1, none⟩ (.int .i64 (rd_T54 S (j : Int)).f1)) = w4 at BK4 HB4 ⊢; have h20 : w4.cell? ⟨g8, 0, none⟩ = some (.int .i64 (rd_T54 S (j : Int)).f0) := (blk_cell BK4.out 0).trans rfl; have h21 : w4.cell? ⟨g8, 1, none⟩ = some (.int .i64 (rd_T54 S (j : Int)).f1) := (blk_cell BK4.out 1).trans rfl))
              have hq1 : w4.cell? ⟨gr, m * 2 + 1, none⟩ = some (.int .i64 (rd_T54 O (m : Int)).f1) := pw_cell_below HB4.out HQ1.out
              go_quiet (fail); have HB5 := Aside0.mk (show Below wr.heap.size wr (w4.drewN nq) from ⟨HB4.out.os, HB4.out.tape, HB4.out.output, HB4.out.size, HB4.out.block⟩); have h50 : (w4.drewN nq).cell? ⟨g8, 0, none⟩ = some (.int .i64 (rd_T54 S (j : Int)).f0) := h20; have h51 : (w4.drewN nq).cell? ⟨g8, 1, none⟩ = some (.int .i64 (rd_T54 S (j : Int)).f1) := h21; clear h20 h21 BK4 HB4
              clear hq1
              generalize w4.drewN nq = w5 at HB5 h50 h51 ⊢
              go_wp2_with (first | ((with_reducible refine gate_dst (N := 75) rfl ?_); refine Kd.R_append k54 (W := w5) (w0 := w2) w2.heap.size (by rfl) _ _ 23 54 _ 16 (by rfl) Try.underlying23 info54 rfl (by decide) (by decide) (.slice (some ⟨gr, 0, none⟩) (m + 1) c6) O ⟨(rd_T54 S (j : Int)).f0, (rd_T54 S (j : Int)).f1⟩ [.int .i64 (rd_T54 S (j : Int)).f0, .int .i64 (rd_T54 S (j : Int)).f1] (fun _ => True) (fun _ => False) (by rfl) (by rfl) (k54_mkM _ _ _ _) (fun _ h => h.elim) (fun _ _ => trivial) (Kd.R_below HRK.out HB5.out) (below_then HBK.out HBK.out.size HB5.out) (Nat.le_trans HBK.out.size HB5.out.size) (by have h1 := HOL.out; omega) ?_; intro v6 w6 hR6 hB6 hG6 hat6; have HR6 := Aside0.mk hR6; have HB6 := Aside0.mk hB6; clear hR6 hB6 hG6 hat6))
              go_roundg (n - (j + 1))
              case measure => have h1 := HK.out; have h2 := HJL.out; omega
              case rel => exact ⟨j + 1, v6, rfl, by go_num, ⟨HJL.out, rfl⟩, ⟨by rw [HST.out, HJP.out, if_neg (by have := HJC.out; omega)]; exact HR6.out⟩, HB6⟩
        · have hje2 : j = n := by have := HK.out; omega
          subst hje2
          have HFIN := Aside0.mk (show (S.take j).foldl joinF [] = mergeF l from by unfold mergeF; rw [← HS.out, ← HLS.out, List.take_length])
          go_wp2
          go_ret
          refine ⟨_, rfl, ?_, below_then HBW.out HBW.out.size HBK.out⟩
          rw [← HFIN.out]
          exact Kd.R_lower HRK.out HBW.out.size
end Go.Proofs.Ytbgfobdlnlkfiaa.A
/- Plain: merging leaves ranges as they are exactly where they are a set's own form. -/
namespace Go.Proofs.Ytbgfobdlnlkfiaa.A
open Go.RowKit Go.Proofs.YtbgfobdlnlkfiaaW.PrintWords Go.Proofs.YtbgfobdlnlkfiaaW.PrintLast Go.Proofs.YtbgfobdlnlkfiaaW.PrintMore
attribute [local go_sem] max2_int min2_int max_two min_two max_three min_three max_four min_four
set_option linter.unusedVariables false
set_option linter.unusedSimpArgs false

def hiF : Int → List S54 → Int
  | lo, [] => lo
  | _, r :: t => hiF (r.f1 + 2) t
theorem hiF_snoc (o : List S54) (q : S54) : ∀ lo, hiF lo (o ++ [q]) = q.f1 + 2 := by
  induction o with
  | nil => intro lo; rfl
  | cons a o ih => intro lo; exact ih _
theorem normFrom_append (a b : List S54) : ∀ lo, normFrom lo (a ++ b) = (normFrom lo a && normFrom (hiF lo a) b) := by
  induction a with
  | nil => intro lo; simp [normFrom, hiF]
  | cons r a ih => intro lo; simp only [List.cons_append, normFrom, hiF, ih, Bool.and_assoc]
theorem joinF_snoc (o : List S54) (q r : S54) : joinF (o ++ [q]) r = if r.f0 ≤ q.f1 + 1 then o ++ [{ q with f1 := max q.f1 r.f1 }] else o ++ [q] ++ [r] := by
  have hm : (o ++ [q]).length = o.length + 1 := by simp
  have hr : rd_T54 (o ++ [q]) (o.length : Int) = q := by simp [rd_T54]
  have e : ((o ++ [q]).length : Int) - 1 = o.length := by omega
  have e2 : (o ++ [q]).length - 1 = o.length := by omega
  unfold joinF
  rw [e, e2, hr]
  by_cases h : r.f0 ≤ q.f1 + 1
  · rw [if_pos ⟨by omega, h⟩, if_pos h]
    simp
  · rw [if_neg (fun hc => h hc.2), if_neg h]
theorem norm_mem {l : List S54} : ∀ {lo}, normFrom lo l = true → 0 ≤ lo → ∀ r ∈ l, lo ≤ r.f0 ∧ r.f0 ≤ r.f1 ∧ r.f1 ≤ 1114111 := by
  induction l with
  | nil => intro lo _ _ r hr; simp at hr
  | cons a l ih =>
    intro lo h h0 r hr
    simp only [normFrom, Bool.and_eq_true, decide_eq_true_eq] at h
    obtain ⟨⟨⟨h1, h2⟩, h3⟩, h4⟩ := h
    rcases List.mem_cons.1 hr with rfl | hr
    · exact ⟨h1, h2, h3⟩
    · have := ih h4 (by omega) r hr
      omega
theorem norm_pairwise {l : List S54} : ∀ {lo}, normFrom lo l = true → 0 ≤ lo → l.Pairwise (fun a b => a.f0 < b.f0) := by
  induction l with
  | nil => intro lo _ _; exact List.Pairwise.nil
  | cons a l ih =>
    intro lo h h0
    simp only [normFrom, Bool.and_eq_true, decide_eq_true_eq] at h
    obtain ⟨⟨⟨h1, h2⟩, h3⟩, h4⟩ := h
    refine List.Pairwise.cons (fun b hb => ?_) (ih h4 (by omega))
    have := norm_mem h4 (by omega) b hb
    omega
theorem clamp_norm {l : List S54} (h : normB l = true) : clampF l = l := by
  have hm := norm_mem h (by omega)
  have e1 : l.map clamp1 = l := by
    conv => rhs; rw [← List.map_id l]
    refine List.map_congr_left fun r hr => ?_
    have h1 := hm r hr
    have e0 : max r.f0 0 = r.f0 := by omega
    have e2 : min r.f1 1114111 = r.f1 := by omega
    simp only [clamp1, e0, e2, id]
  unfold clampF
  rw [e1, List.filter_eq_self]
  intro r hr
  have h1 := hm r hr
  exact decide_eq_true h1.2.1
theorem sort_norm {l : List S54} (h : normB l = true) : sortF l = l := by
  have hp := norm_pairwise h (by omega)
  obtain ⟨h1, h2, _⟩ := sortF_perm l
  refine List.Perm.eq_of_pairwise (le := fun a b : S54 => a.f0 ≤ b.f0) ?_ h2 (hp.imp (fun hab => Int.le_of_lt hab)) h1
  intro a b ha hb hab hba
  have ha' : a ∈ l := h1.mem_iff.1 ha
  rcases List.getElem_of_mem ha' with ⟨i, hi, rfl⟩
  rcases List.getElem_of_mem hb with ⟨j, hj, rfl⟩
  rw [List.pairwise_iff_getElem] at hp
  rcases Nat.lt_trichotomy i j with hij | rfl | hij
  · have := hp i j hi hj hij
    omega
  · rfl
  · have := hp j i hj hi hij
    omega
theorem join_norm : ∀ (s out : List S54), normB (out ++ s) = true → s.foldl joinF out = out ++ s := by
  intro s
  induction s with
  | nil => intro out _; simp
  | cons r s ih =>
    intro out h
    have hj : joinF out r = out ++ [r] := by
      rcases List.eq_nil_or_concat out with rfl | ⟨o, q, rfl⟩
      · exact joinF_nil r
      · rw [List.concat_eq_append] at h ⊢
        unfold normB at h
        rw [normFrom_append, hiF_snoc, Bool.and_eq_true] at h
        have h2 := h.2
        simp only [normFrom, Bool.and_eq_true, decide_eq_true_eq] at h2
        rw [joinF_snoc, if_neg (by omega)]
    rw [List.foldl_cons, hj, ih (out ++ [r]) (by simpa using h)]
    simp
theorem joined_norm : ∀ (s out : List S54), normB out = true → (∀ o q, out = o ++ [q] → ∀ r ∈ s, q.f0 ≤ r.f0) → s.Pairwise (fun a b => a.f0 ≤ b.f0) → (∀ r ∈ s, 0 ≤ r.f0 ∧ r.f0 ≤ r.f1 ∧ r.f1 ≤ 1114111) → normB (s.foldl joinF out) = true := by
  intro s
  induction s with
  | nil => intro out h _ _ _; exact h
  | cons r s ih =>
    intro out h hl hp hb
    have hr := hb r List.mem_cons_self
    have hp' := List.pairwise_cons.1 hp
    rw [List.foldl_cons]
    rcases List.eq_nil_or_concat out with rfl | ⟨o, q, rfl⟩
    · rw [joinF_nil]
      refine ih [r] ?_ ?_ hp'.2 (fun x hx => hb x (List.mem_cons_of_mem _ hx))
      · simp only [normB, normFrom, Bool.and_eq_true, decide_eq_true_eq, Bool.and_true]; omega
      · intro o q e x hx
        have e2 : r = q := by
          rcases o with _ | ⟨a, o⟩
          · simpa using e
          · simp at e
        subst e2
        exact hp'.1 x hx
    · rw [List.concat_eq_append] at h hl ⊢
      have hq := hl o q rfl r List.mem_cons_self
      unfold normB at h
      rw [normFrom_append, Bool.and_eq_true] at h
      obtain ⟨h1, h2⟩ := h
      simp only [normFrom, Bool.and_eq_true, decide_eq_true_eq, and_true] at h2
      rw [joinF_snoc]
      by_cases hc : r.f0 ≤ q.f1 + 1
      · rw [if_pos hc]
        refine ih _ ?_ ?_ hp'.2 (fun x hx => hb x (List.mem_cons_of_mem _ hx))
        · unfold normB
          rw [normFrom_append, Bool.and_eq_true]
          refine ⟨h1, ?_⟩
          simp only [normFrom, Bool.and_eq_true, decide_eq_true_eq, Bool.and_true]
          omega
        · intro o' q' e x hx
          have e2 := (List.append_inj_right' e rfl)
          simp only [List.cons.injEq, and_true] at e2
          subst e2
          have := hp'.1 x hx
          show q.f0 ≤ x.f0
          omega
      · rw [if_neg hc]
        refine ih _ ?_ ?_ hp'.2 (fun x hx => hb x (List.mem_cons_of_mem _ hx))
        · unfold normB
          rw [normFrom_append, hiF_snoc, normFrom_append, Bool.and_eq_true, Bool.and_eq_true]
          refine ⟨⟨h1, ?_⟩, ?_⟩
          · simp only [normFrom, Bool.and_eq_true, decide_eq_true_eq, Bool.and_true]
            omega
          · simp only [normFrom, Bool.and_eq_true, decide_eq_true_eq, Bool.and_true]
            omega
        · intro o' q' e x hx
          have e2 := (List.append_inj_right' e rfl)
          simp only [List.cons.injEq, and_true] at e2
          subst e2
          exact hp'.1 x hx
theorem merge_norm (l : List S54) : normB (mergeF l) = true := by
  obtain ⟨h1, h2, _⟩ := sortF_perm (clampF l)
  refine joined_norm _ [] rfl (fun o q e => by simp at e) h2 (fun r hr => ?_)
  have hi := In.sort l r hr
  have hc := h1.mem_iff.1 hr
  unfold clampF at hc
  rw [List.mem_filter] at hc
  have := of_decide_eq_true hc.2
  omega
/-- Merging leaves the ranges as they are exactly where they have a set's own form. -/
theorem merge_same (l : List S54) : mergeF l = l ↔ normB l = true := by
  constructor
  · intro h
    rw [← h]
    exact merge_norm l
  · intro h
    unfold mergeF
    rw [clamp_norm h, sort_norm h]
    exact (join_norm l [] h).trans (List.nil_append l)
end Go.Proofs.Ytbgfobdlnlkfiaa.A
/- rx.ranges: whether ranges have a set's own form. -/
namespace Go.Proofs.Ytbgfobdlnlkfiaa.A
open Go.RowKit Go.Proofs.YtbgfobdlnlkfiaaW.PrintWords Go.Proofs.YtbgfobdlnlkfiaaW.PrintLast Go.Proofs.YtbgfobdlnlkfiaaW.PrintMore
attribute [local go_sem] max2_int min2_int max_two min_two max_three min_three max_four min_four
set_option linter.unusedVariables false
set_option linter.unusedSimpArgs false


open Classical in
theorem eq58_go (a b : List S54) (hl : a.length = b.length) (hm : a.length ≤ 1000000000000000000) : ∀ (m j : Nat), a.length - j = m → j ≤ a.length → api_Range_58.l0 (m + 1) a b (a.length : Int) (j : Int) = some (decide (a.drop j = b.drop j)) := by
  intro m
  induction m with
  | zero =>
    intro j h1 h2
    have hj : j = a.length := by omega
    subst hj
    have e : b.drop a.length = [] := List.drop_eq_nil_of_le (by omega)
    rw [api_Range_58.l0, if_neg (by omega), e, List.drop_length]
    simp
  | succ m ih =>
    intro j h1 h2
    have hj : j < a.length := by omega
    have hj2 : j < b.length := by omega
    rw [api_Range_58.l0, if_pos (by omega), if_pos (by omega), if_pos (by omega), if_pos (by omega), rd54_get a j hj, rd54_get b j hj2, List.drop_eq_getElem_cons hj, List.drop_eq_getElem_cons hj2]
    have ew : wrap64 ((j : Int) + 1) = ((j + 1 : Nat) : Int) := by unfold wrap64; omega
    by_cases h0 : a[j].f0 = b[j].f0
    · by_cases h3 : a[j].f1 = b[j].f1
      · have e : a[j] = b[j] := by cases ha : a[j]; cases hb : b[j]; rw [ha, hb] at h0 h3; simp only at h0 h3; rw [h0, h3]
        rw [if_neg (by simp [h0, h3]), ew, ih (j + 1) (by omega) (by omega)]
        simp only [List.cons.injEq, e, true_and]
      · have e : a[j] ≠ b[j] := fun e => h3 (by rw [e])
        rw [if_pos (by simp [h3])]
        simp only [List.cons.injEq, e, false_and, decide_false]
    · have e : a[j] ≠ b[j] := fun e => h0 (by rw [e])
      rw [if_pos (by simp [h0])]
      simp only [List.cons.injEq, e, false_and, decide_false]
open Classical in
theorem eq58 (a b : List S54) (hm : a.length ≤ 1000000000000000000) : ∃ k, api_Range_58.f k a b = some (decide (a = b)) := by
  unfold api_Range_58.f
  by_cases hl : a.length = b.length
  · refine ⟨a.length + 1, ?_⟩
    rw [if_pos (by omega)]
    exact eq58_go a b hl hm a.length 0 (by omega) (by omega)
  · refine ⟨0, ?_⟩
    rw [if_neg (by omega)]
    have : a ≠ b := fun e => hl (by rw [e])
    simp [this]
open Classical in
set_option maxHeartbeats 8000000 in
set_option maxRecDepth 100000 in
theorem ranges_calls (A : Option Addr) (c : Nat) (l : List S54) (w : World) (hr : k54.C w A l.length l) (hc : l.length ≤ c) (hm : l.length ≤ 8796093021952) :
    Calls Try.prog 72 #[.slice A l.length c] w fun e w' => e = .returned (.bool (normB l)) ∧ Below w.heap.size w w' := by
  obtain ⟨k, hk⟩ := eq58 (mergeF l) l (by have := mergeF_le l; omega)
  have e : decide (mergeF l = l) = normB l := by
    by_cases h : mergeF l = l
    · rw [decide_eq_true h, (merge_same l).1 h]
    · rw [decide_eq_false h]
      cases hn : normB l with
      | false => rfl
      | true => exact absurd ((merge_same l).2 hn) h
  rw [e] at hk
  have HK := Aside0.mk hk
  have HR := Aside0.mk hr
  have HC := Aside0.mk hc
  have HM := Aside0.mk hm
  clear hr hc hm hk e
  go_enter Try.func72, Try.ntmps72
  go_wp2_with (first | (go_at_call 21; refine (merge_calls A c l w HR.out HC.out HM.out).mono ?_; rintro e w1 ⟨v1, rfl, hR1, hB1⟩; obtain ⟨A1, c1, rfl, hl1, hC1⟩ := Kd.R_reads hR1; have HC1 := Aside0.mk hC1; have HL1 := Aside0.mk hl1; have HB1 := Aside0.mk hB1; clear hR1 hB1 hC1 hl1) | (go_at_call 58; refine (api_Range_58.calls k A1 c1 (mergeF l) A c l (normB l) w1 HC1.out HL1.out (Kd.C_below HR.out HB1.out) HC.out HK.out).mono ?_; rintro e w2 ⟨rfl, ⟨nd, rfl⟩⟩))
  go_ret
  exact ⟨rfl, ⟨HB1.out.os, HB1.out.tape, HB1.out.output, HB1.out.size, HB1.out.block⟩⟩
end Go.Proofs.Ytbgfobdlnlkfiaa.A
/- slices.ContainsFunc and IndexFunc of trees, at the closure of rx.fits. -/
namespace Go.Proofs.Ytbgfobdlnlkfiaa.A
open Go.RowKit Go.Proofs.YtbgfobdlnlkfiaaW.PrintWords Go.Proofs.YtbgfobdlnlkfiaaW.PrintLast Go.Proofs.YtbgfobdlnlkfiaaW.PrintMore
attribute [local go_sem] max2_int min2_int max_two min_two max_three min_three max_four min_four
set_option linter.unusedVariables false
set_option linter.unusedSimpArgs false


/-- What the closure answers, of any tree of the list. -/
def Asks (p : S26 → Bool) (g0 : Nat) (lv : Int) (l : List S26) : Prop :=
  ∀ y ∈ l, ∀ (A1 : Option Addr) (c1 : Nat) (A5 : Option Addr) (c5 : Nat) (w : World), k54.C w A1 y.f1.length y.f1 → y.f1.length ≤ c1 → k26.C w A5 y.f5.length y.f5 → y.f5.length ≤ c5 → w.heap[g0]? = some (.cells #[.int .i64 lv] 3 (0, 0)) →
    Calls Try.prog 74 #[.agg #[.int .i64 y.f0, .slice A1 y.f1.length c1, .int .i64 y.f2, .int .i64 y.f3, .bool y.f4, .slice A5 y.f5.length c5], .pointer (some ⟨g0, 0, none⟩)] w fun e w' => e = .returned (.bool (p y)) ∧ Below w.heap.size w w'
theorem any_take_succ (p : S26 → Bool) (l : List S26) (j : Nat) (h : j < l.length) : (l.take (j + 1)).any p = ((l.take j).any p || p (rd_T26 l (j : Int))) := by
  have e : rd_T26 l (j : Int) = l[j] := by simp [rd_T26, h]
  rw [e, List.take_succ_eq_append_getElem h, List.any_append]
  simp
theorem rd26_mem (l : List S26) (j : Nat) (h : j < l.length) : rd_T26 l (j : Int) ∈ l := by
  have e : rd_T26 l (j : Int) = l[j] := by simp [rd_T26, h]
  rw [e]
  exact List.getElem_mem h
set_option maxHeartbeats 8000000 in
set_option maxRecDepth 100000 in
theorem index_calls (p : S26 → Bool) (g0 : Nat) (lv : Int) (A : Option Addr) (c : Nat) (l : List S26) (w : World) (hr : k26.C w A l.length l) (hc : l.length ≤ c) (hb : w.heap[g0]? = some (.cells #[.int .i64 lv] 3 (0, 0))) (hp : Asks p g0 lv l) (hm : l.length ≤ 9000000000000) :
    Calls Try.prog 90 #[.slice A l.length c, .func (.func 74) #[] #[.pointer (some ⟨g0, 0, none⟩)]] w fun e w' => ∃ r : Int, e = .returned (.int .i64 r) ∧ decide (0 ≤ r) = l.any p ∧ Below w.heap.size w w' := by
  have hu26 := Try.underlying26
  have HR := Aside0.mk hr
  have HC := Aside0.mk hc
  have HBX := Aside0.mk hb
  have HP := Aside0.mk hp
  clear hr hc hb hp
  go_enter Try.func90, Try.ntmps90
  go_wp2
  go_loopg [8] l.length (fun kq v8 w' => ∃ (j : Nat), v8 = .int .i64 j ∧ Aside0 (j ≤ l.length ∧ kq = l.length - j) ∧ Aside0 ((l.take j).any p = false) ∧ Aside0 (Below w.heap.size w w'))
  case atStart => exact ⟨0, rfl, ⟨by omega, by omega⟩, ⟨by simp⟩, ⟨Below.refl _ _⟩⟩
  case round =>
    obtain ⟨j, rfl, HJ, HF, HB⟩ := hrel
    by_cases hlt : j < l.length
    · have HJL := Aside0.mk hlt
      have hlx : (j : Int) < (l.length : Int) := by omega
      obtain ⟨ad, A1_, c1_, A5_, c5_, e_, hx0_, hx1_, hx2_, hx3_, hx4_, hx5_, hl1_, hi1_, hl5_, hi5_⟩ := at_T26 HR.out (j : Int) (by omega) (by omega)
      cases e_
      simp only [Int.toNat_natCast] at hx0_ hx1_ hx2_ hx3_ hx4_ hx5_
      replace hx0_ := (HB.out.cell (World.block_lt_of_cell? w _ hx0_)).trans hx0_
      replace hx1_ := (HB.out.cell (World.block_lt_of_cell? w _ hx1_)).trans hx1_
      replace hx2_ := (HB.out.cell (World.block_lt_of_cell? w _ hx2_)).trans hx2_
      replace hx3_ := (HB.out.cell (World.block_lt_of_cell? w _ hx3_)).trans hx3_
      replace hx4_ := (HB.out.cell (World.block_lt_of_cell? w _ hx4_)).trans hx4_
      replace hx5_ := (HB.out.cell (World.block_lt_of_cell? w _ hx5_)).trans hx5_
      have HS := Aside0.mk (any_take_succ p l j hlt)
      have HPJ := Aside0.mk (HP.out _ (rd26_mem l j hlt))
      clear hlt
      by_cases hpp : p (rd_T26 l (j : Int)) = true
      · have HPP := Aside0.mk hpp
        go_wp2_with (first | (go_at_call 74; refine (HPJ.out A1_ c1_ A5_ c5_ wr (Kd.C_below hi1_ HB.out) hl1_ (Kd.C_below hi5_ HB.out) hl5_ (blk_below HBX.out HB.out)).mono ?_; rintro e w2 ⟨rfl, hb2⟩; have HB2 := Aside0.mk (below_then HB.out HB.out.size hb2); clear hb2))
        go_ret
        refine ⟨_, rfl, ?_, HB2.out⟩
        have h1 := HS.out
        rw [HPP.out, Bool.or_true] at h1
        have h2 : l.any p = true := by
          rw [List.any_eq_true] at h1 ⊢
          obtain ⟨y, hy, hpy⟩ := h1
          exact ⟨y, List.mem_of_mem_take hy, hpy⟩
        rw [h2]
        exact decide_eq_true (by omega)
      · have hpf : p (rd_T26 l (j : Int)) = false := by simpa using hpp
        have HPP := Aside0.mk hpf
        clear hpp
        go_wp2_with (first | (go_at_call 74; refine (HPJ.out A1_ c1_ A5_ c5_ wr (Kd.C_below hi1_ HB.out) hl1_ (Kd.C_below hi5_ HB.out) hl5_ (blk_below HBX.out HB.out)).mono ?_; rintro e w2 ⟨rfl, hb2⟩; have HB2 := Aside0.mk (below_then HB.out HB.out.size hb2); clear hb2))
        go_roundg (l.length - (j + 1))
        case measure => have h1 := HJ.out; have h2 := HJL.out; omega
        case rel => exact ⟨j + 1, by go_num, ⟨HJL.out, rfl⟩, ⟨by rw [HS.out, HF.out, HPP.out]; rfl⟩, HB2⟩
    · have hje : j = l.length := by have := HJ.out; omega
      subst hje
      have HL := Aside0.mk (show l.any p = false from by have h := HF.out; rw [List.take_length] at h; exact h)
      go_wp2
      go_ret
      exact ⟨_, rfl, by rw [HL.out]; rfl, HB.out⟩
set_option maxHeartbeats 8000000 in
set_option maxRecDepth 100000 in
theorem contains_calls (p : S26 → Bool) (g0 : Nat) (lv : Int) (A : Option Addr) (c : Nat) (l : List S26) (w : World) (hr : k26.C w A l.length l) (hc : l.length ≤ c) (hb : w.heap[g0]? = some (.cells #[.int .i64 lv] 3 (0, 0))) (hp : Asks p g0 lv l) (hm : l.length ≤ 9000000000000) :
    Calls Try.prog 73 #[.slice A l.length c, .func (.func 74) #[] #[.pointer (some ⟨g0, 0, none⟩)]] w fun e w' => e = .returned (.bool (l.any p)) ∧ Below w.heap.size w w' := by
  have HI := Aside0.mk (index_calls p g0 lv A c l w hr hc hb hp hm)
  clear hr hc hb hp
  go_enter Try.func73, Try.ntmps73
  go_wp2_with (first | (go_at_call 90; refine (HI.out).mono ?_; rintro e w2 ⟨r, rfl, hd, hb2⟩; have HB2 := Aside0.mk hb2; have HD := Aside0.mk hd; clear hb2 hd))
  go_ret
  exact ⟨by rw [← HD.out]; rfl, HB2.out⟩
end Go.Proofs.Ytbgfobdlnlkfiaa.A
/- rx.fits: whether a tree is right, at most so many levels deep. -/
namespace Go.Proofs.Ytbgfobdlnlkfiaa.A
open Go.RowKit Go.Proofs.YtbgfobdlnlkfiaaW.PrintWords Go.Proofs.YtbgfobdlnlkfiaaW.PrintLast Go.Proofs.YtbgfobdlnlkfiaaW.PrintMore
attribute [local go_sem] max2_int min2_int max_two min_two max_three min_three max_four min_four
set_option linter.unusedVariables false
set_option linter.unusedSimpArgs false


/-- The operations that have come up, as bits. -/
def msk (n b : Nat) : Array Bool := ((List.range n).map fun i => b.testBit i).toArray
/-- A fact kept aside: no proposition, so that no tactic takes it for a rule. -/
structure Tk (p : Prop) : Type where
  out : p
section
variable {P : Program} {ops : Array Oper} {o : Oper} {Q : Exit → Act → World → Prop}
theorem name_at {rest : List Oper} {a : Act} {W : World} {N : Tmp} (_hN : o.dst = some N) (F : World → Prop) (hF : F W) (h : ∀ w', F w' → wpList P ops Q (o :: rest) a w') : wpList P ops Q (o :: rest) a W := h W hF
end
def FitsAt (n : Nat) : Prop :=
  ∀ (x : S26) (A1 : Option Addr) (c1 : Nat) (A5 : Option Addr) (c5 : Nat) (w : World), k54.C w A1 x.f1.length x.f1 → x.f1.length ≤ c1 → k26.C w A5 x.f5.length x.f5 → x.f5.length ≤ c5 → bnd n x → n ≤ 1000 →
    Calls Try.prog 54 #[.agg #[.int .i64 x.f0, .slice A1 x.f1.length c1, .int .i64 x.f2, .int .i64 x.f3, .bool x.f4, .slice A5 x.f5.length c5], .int .i64 n] w fun e w' => e = .returned (.bool (rightB n x)) ∧ Below w.heap.size w w'
set_option maxHeartbeats 8000000 in
set_option maxRecDepth 100000 in
theorem asks_of_fits {n : Nat} (ih : FitsAt n) (hn : n ≤ 1000) (g0 : Nat) (l : List S26) (hl : ∀ y ∈ l, bnd n y) : Asks (fun y => !rightB n y) g0 ((n : Int) + 1) l := by
  intro y hy A1 c1 A5 c5 w h1 h2 h3 h4 hb
  have HR1 := Aside0.mk h1
  have HC1 := Aside0.mk h2
  have HR5 := Aside0.mk h3
  have HC5 := Aside0.mk h4
  have HB0 := Aside0.mk hb
  have HBD := Aside0.mk (hl y hy)
  have IH := Aside0.mk ih
  have hu26 := Try.underlying26
  clear h1 h2 h3 h4 hb ih hl
  go_enter Try.func74, Try.ntmps74
  go_wp2_with (first | ((with_reducible refine gate_dst (N := 2) rfl ?_); refine box_event ?hg (N := 2) ?hd (cs := #[.int .i64 y.f0, .slice A1 y.f1.length c1, .int .i64 y.f2, .int .i64 y.f3, .bool y.f4, .slice A5 y.f5.length c5]) (t := 26) ?hr ?_; (case hd => rfl); (case hg => rfl); (case hr => first | (go_simp; done) | (go_simp; rfl)); intro gx hgx_ w1 hbox hb; have HG_gx := Aside0.mk hgx_; clear hgx_; have HBX := Aside0.mk hb; have BKX := Aside0.mk hbox; have hl0 : w1.cell? ⟨g0, 0, none⟩ = some (.int .i64 ((n : Int) + 1)) := (blk_cell (blk_below HB0.out hb) 0).trans rfl; have hx0 : w1.cell? ⟨gx, 0, none⟩ = some (.int .i64 y.f0) := (blk_cell hbox 0).trans rfl; have hx1 : w1.cell? ⟨gx, 1, none⟩ = some (.slice A1 y.f1.length c1) := (blk_cell hbox 1).trans rfl; have hx2 : w1.cell? ⟨gx, 2, none⟩ = some (.int .i64 y.f2) := (blk_cell hbox 2).trans rfl; have hx3 : w1.cell? ⟨gx, 3, none⟩ = some (.int .i64 y.f3) := (blk_cell hbox 3).trans rfl; have hx4 : w1.cell? ⟨gx, 4, none⟩ = some (.bool y.f4) := (blk_cell hbox 4).trans rfl; have hx5 : w1.cell? ⟨gx, 5, none⟩ = some (.slice A5 y.f5.length c5) := (blk_cell hbox 5).trans rfl; clear hb hbox) | (go_at_call 54; refine (IH.out y A1 c1 A5 c5 w1 (Kd.C_below HR1.out HBX.out) HC1.out (Kd.C_below HR5.out HBX.out) HC5.out HBD.out hn).mono ?_; rintro e w2 ⟨rfl, hb2⟩; have HB2 := Aside0.mk (below_then HBX.out HBX.out.size hb2); clear hb2))
  go_ret
  exact ⟨rfl, HB2.out⟩
theorem right_false {n : Nat} {x : S26} (h : nodeB x = true → False) : rightB (n + 1) x = false := by
  have h2 : nodeB x = false := by
    cases hx : nodeB x with
    | false => rfl
    | true => exact (h hx).elim
  simp [rightB, h2]
theorem right_eq {n : Nat} {x : S26} (h : nodeB x = true) : rightB (n + 1) x = !(x.f5.any fun y => !rightB n y) := by
  simp only [rightB, h, Bool.true_and, List.all_eq_not_any_not]
theorem node_leaf {x : S26} (h : x.f0 = 1 ∨ x.f0 = 6 ∨ x.f0 = 7 ∨ x.f0 = 8 ∨ x.f0 = 9) : nodeB x = (decide (x.f5.length = 0) && decide (x.f1.length = 0) && decide (x.f2 = 0) && decide (x.f3 = 0) && !x.f4) := by
  unfold nodeB
  rw [if_pos h]
theorem node_set {x : S26} (h : x.f0 = 2) : nodeB x = (decide (x.f5.length = 0) && normB x.f1 && decide (x.f2 = 0) && decide (x.f3 = 0) && !x.f4) := by
  unfold nodeB
  rw [if_neg (by omega), if_pos h]
theorem node_row {x : S26} (h : x.f0 = 3 ∨ x.f0 = 4) : nodeB x = (decide (2 ≤ x.f5.length) && decide (x.f1.length = 0) && decide (x.f2 = 0) && decide (x.f3 = 0) && !x.f4) := by
  unfold nodeB
  rw [if_neg (by omega), if_neg (by omega), if_pos h]
theorem node_rep {x : S26} (h : x.f0 = 5) : nodeB x = (decide (x.f5.length = 1) && decide (x.f1.length = 0) && decide (0 ≤ x.f2) && decide (x.f2 ≤ 1000) && decide (-1 ≤ x.f3) && decide (x.f3 ≤ 1000) && (decide (x.f3 < 0) || decide (x.f2 ≤ x.f3))) := by
  unfold nodeB
  rw [if_neg (by omega), if_neg (by omega), if_neg (by omega), if_pos h]
end Go.Proofs.Ytbgfobdlnlkfiaa.A
