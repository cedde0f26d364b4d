/- Several texts of this claim, laid together. -/
import Derived.Test.YtbgfobdlnlkfiaaB1
import Derived.Test.YtbgfobdlnlkfiaaKh
import Derived.Test.YtbgfobdlnlkfiaaKj
import Derived.Test.YtbgfobdlnlkfiaaKi
/- Plain: levels; a tree's states do not hang on how many levels are allowed; a repeat and a row of the same make the same states; the same states are the same. -/
namespace Go.Proofs.Ytbgfobdlnlkfiaa.A
open Go.RowKit Go.Proofs.YtbgfobdlnlkfiaaW.PrintWords Go.Proofs.YtbgfobdlnlkfiaaW.PrintLast Go.Proofs.YtbgfobdlnlkfiaaW.PrintMore
attribute [local go_sem] max2_int min2_int max_two min_two max_three min_three max_four min_four
set_option linter.unusedVariables false
set_option linter.unusedSimpArgs false

def levN : Nat → S26 → Nat
  | 0, _ => 0
  | n + 1, x => x.f5.foldl (fun m y => max m (levN n y)) 0 + 1
theorem foldl_max {α : Type} (f : α → Nat) : ∀ (l : List α) (a : Nat), a ≤ l.foldl (fun m y => max m (f y)) a ∧ ∀ y ∈ l, f y ≤ l.foldl (fun m y => max m (f y)) a
  | [], a => ⟨Nat.le_refl _, fun y h => by simp at h⟩
  | z :: l, a => by
    have h := foldl_max f l (max a (f z))
    refine ⟨by have := h.1; simp only [List.foldl_cons]; omega, fun y hy => ?_⟩
    simp only [List.foldl_cons]
    rcases List.mem_cons.1 hy with rfl | hy
    · have := h.1; omega
    · exact h.2 y hy
theorem foldl_max_le {α : Type} (f : α → Nat) (b : Nat) : ∀ (l : List α) (a : Nat), a ≤ b → (∀ y ∈ l, f y ≤ b) → l.foldl (fun m y => max m (f y)) a ≤ b
  | [], _, h, _ => h
  | z :: l, a, h, hl => foldl_max_le f b l _ (Nat.max_le.2 ⟨h, hl z List.mem_cons_self⟩) (fun y hy => hl y (List.mem_cons_of_mem _ hy))
theorem lev_le : ∀ (n : Nat) (x : S26), levN n x ≤ n
  | 0, _ => Nat.le_refl _
  | n + 1, x => by
    have := foldl_max_le (levN n) n x.f5 0 (Nat.zero_le _) (fun y _ => lev_le n y)
    show _ + 1 ≤ n + 1
    omega
theorem lev_l0 (n : Nat) (x : S26) (hn : n ≤ 1000) (hl : x.f5.length ≤ 8796093022208) (ih : ∀ y ∈ x.f5, Ev (fun k => caliperref09_Levels.f k y.f0 y.f1 y.f2 y.f3 y.f4 y.f5) ((levN n y : Nat) : Int)) : ∀ (d i : Nat) (m : Nat), i + d = x.f5.length → m ≤ 1000 →
    Ev (fun k => caliperref09_Levels.l0 k (m : Int) (i : Int) x.f0 x.f1 x.f2 x.f3 x.f4 x.f5) (((x.f5.drop i).foldl (fun m y => max m (levN n y)) m + 1 : Nat) : Int)
  | 0, i, m, hi, hm => by
    rw [List.drop_eq_nil_of_le (by omega)]
    refine Ev.step (f := fun _ => some ((m + 1 : Nat) : Int)) (fun k => by simp only [caliperref09_Levels.l0]; rw [if_neg (by omega), w64 (by omega) (by omega)]; rfl) (Ev.now _)
  | d + 1, i, m, hi, hm => by
    have hlt : i < x.f5.length := by omega
    have he : rd_T26 x.f5 (i : Int) = x.f5[i] := rd26 hlt
    have h1 := lev_le n x.f5[i]
    have em : mx (m : Int) (levN n x.f5[i] : Int) = ((max m (levN n x.f5[i]) : Nat) : Int) := by unfold mx; split <;> omega
    have ew : wrap64 ((i : Int) + 1) = ((i + 1 : Nat) : Int) := by unfold wrap64; omega
    rw [List.drop_eq_getElem_cons hlt]
    refine Ev.step (f := fun k => (caliperref09_Levels.f k x.f5[i].f0 x.f5[i].f1 x.f5[i].f2 x.f5[i].f3 x.f5[i].f4 x.f5[i].f5).bind fun t => caliperref09_Levels.l0 k (mx (m : Int) t) (wrap64 ((i : Int) + 1)) x.f0 x.f1 x.f2 x.f3 x.f4 x.f5)
      (fun k => by simp only [caliperref09_Levels.l0]; rw [if_pos (by omega), if_pos (by omega), he]) ?_
    refine Ev.bind (ih _ (List.getElem_mem hlt)) ?_
    rw [em, ew]
    exact lev_l0 n x hn hl ih d (i + 1) _ (by omega) (by omega)
theorem lev_ev : ∀ (n : Nat) (x : S26), n ≤ 1000 → rightB n x = true → bnd n x → Ev (fun k => caliperref09_Levels.f k x.f0 x.f1 x.f2 x.f3 x.f4 x.f5) ((levN n x : Nat) : Int)
  | 0, x, _, h, _ => by simp [rightB] at h
  | n + 1, x, hn, h, hb => by
    simp only [rightB, Bool.and_eq_true] at h
    obtain ⟨_, hl, hbs⟩ := hb
    have h0 := lev_l0 n x (by omega) (by omega) (fun y hy => lev_ev n y (by omega) (List.all_eq_true.1 h.2 y hy) (hbs y hy)) x.f5.length 0 0 (by omega) (by omega)
    rw [List.drop_zero] at h0
    exact Ev.step (fun k => by simp only [caliperref09_Levels.f]; rfl) h0
theorem right_lev : ∀ (n m : Nat) (x : S26), rightB n x = true → levN n x ≤ m → rightB m x = true
  | 0, _, x, h, _ => by simp [rightB] at h
  | n + 1, 0, x, _, hm => by simp [levN] at hm
  | n + 1, m + 1, x, h, hm => by
    simp only [rightB, Bool.and_eq_true] at h ⊢
    refine ⟨h.1, List.all_eq_true.2 fun y hy => right_lev n m y (List.all_eq_true.1 h.2 y hy) ?_⟩
    have := (foldl_max (levN n) x.f5 0).2 y hy
    have h2 : levN (n + 1) x = x.f5.foldl (fun m y => max m (levN n y)) 0 + 1 := rfl
    omega
theorem foldl_same {b c : S26 → List S38 → List S38} : ∀ (ys : List S26) (l : List S38), (∀ y ∈ ys, b y = c y) → ys.foldl (fun l y => b y l) l = ys.foldl (fun l y => c y l) l
  | [], _, _ => rfl
  | y :: ys, l, h => by
    simp only [List.foldl_cons]
    rw [h y List.mem_cons_self]
    exact foldl_same ys _ (fun z hz => h z (List.mem_cons_of_mem _ hz))
theorem altGo_same {b c : S26 → List S38 → List S38} : ∀ (ys : List S26) (l : List S38) (o : List Nat), (∀ y ∈ ys, b y = c y) → altGo b ys l o = altGo c ys l o
  | [], _, _, _ => rfl
  | [y], l, o, h => by simp only [altGo]; rw [h y List.mem_cons_self]
  | y :: z :: r, l, o, h => by
    simp only [altGo]
    rw [h y List.mem_cons_self]
    exact altGo_same (z :: r) _ _ (fun q hq => h q (List.mem_cons_of_mem _ hq))
theorem build_rowx {n : Nat} {x : S26} (k : x.f0 = 3) (l : List S38) : buildF (n + 1) x l = x.f5.foldl (fun l y => buildF n y l) l := by
  conv => lhs; unfold buildF
  rw [if_neg (by omega), if_neg (by omega), if_neg (by omega), if_neg (by omega), if_neg (by omega), if_pos k]
theorem build_rept {n : Nat} {x : S26} (k : x.f0 = 5) (l : List S38) : buildF (n + 1) x l = repF (decide (sizeF n (rd_T26 x.f5 0) 1 = 0)) (buildF n (rd_T26 x.f5 0)) x l := by
  conv => lhs; unfold buildF
  rw [if_neg (by omega), if_neg (by omega), if_neg (by omega), if_neg (by omega), if_neg (by omega), if_neg (by omega), if_neg (by omega), if_pos k]
/-- The states do not hang on the levels that are allowed. -/
theorem build_level : ∀ (n m : Nat) (x : S26), rightB n x = true → rightB m x = true → buildF n x = buildF m x
  | 0, _, x, h, _ => by simp [rightB] at h
  | n + 1, 0, x, _, h => by simp [rightB] at h
  | n + 1, m + 1, x, hn, hm => by
    funext l
    simp only [rightB, Bool.and_eq_true] at hn hm
    have ih : ∀ y ∈ x.f5, buildF n y = buildF m y := fun y hy => build_level n m y (List.all_eq_true.1 hn.2 y hy) (List.all_eq_true.1 hm.2 y hy)
    by_cases k5 : x.f0 = 5
    · have h1 : x.f5.length = 1 := by
        have h := hn.1
        unfold nodeB at h
        rw [if_neg (by omega), if_neg (by omega), if_neg (by omega), if_pos k5] at h
        simp only [Bool.and_eq_true, decide_eq_true_eq] at h
        exact h.1.1.1.1.1.1
      have hmem : rd_T26 x.f5 0 ∈ x.f5 := by
        have e : rd_T26 x.f5 0 = x.f5[0] := by simp [rd_T26, h1]
        rw [e]; exact List.getElem_mem (by omega)
      have hr1 := List.all_eq_true.1 hn.2 _ hmem
      have hr2 := List.all_eq_true.1 hm.2 _ hmem
      have hb := ih _ hmem
      have hl : lenF n (rd_T26 x.f5 0) = lenF m (rd_T26 x.f5 0) := by
        have a := len_build n _ hr1 []
        have b := len_build m _ hr2 []
        rw [hb] at a
        simp only [List.length_nil, Nat.zero_add] at a b
        omega
      have hs : sizeF n (rd_T26 x.f5 0) 1 = sizeF m (rd_T26 x.f5 0) 1 := by rw [size_len (by omega) n _ hr1, size_len (by omega) m _ hr2, hl]
      rw [build_rept k5, build_rept k5, hs, hb]
    unfold buildF
    by_cases k3 : x.f0 = 3
    · simp only [k3]; simp only [show ¬ (3 : Int) = 2 from by omega, show ¬ (3 : Int) = 6 from by omega, show ¬ (3 : Int) = 7 from by omega, show ¬ (3 : Int) = 8 from by omega, show ¬ (3 : Int) = 9 from by omega, if_false, if_true]
      exact foldl_same x.f5 l ih
    by_cases k4 : x.f0 = 4
    · simp only [k4]; simp only [show ¬ (4 : Int) = 2 from by omega, show ¬ (4 : Int) = 6 from by omega, show ¬ (4 : Int) = 7 from by omega, show ¬ (4 : Int) = 8 from by omega, show ¬ (4 : Int) = 9 from by omega, show ¬ (4 : Int) = 3 from by omega, if_false, if_true]
      unfold altF
      rw [altGo_same x.f5 l [] ih]
    simp only [k3, k4, k5, if_false]
theorem foldl_rep (b : S26 → List S38 → List S38) (x : S26) : ∀ (n : Nat) (l : List S38), (List.replicate n x).foldl (fun l y => b y l) l = timesF (b x) n l
  | 0, _ => rfl
  | n + 1, l => by rw [List.replicate_succ, List.foldl_cons]; exact foldl_rep b x n (b x l)
theorem times_none {f : List S38 → List S38} (h : ∀ l, f l = l) : ∀ n l, timesF f n l = l
  | 0, _ => rfl
  | n + 1, l => by rw [timesF, h, times_none h n]
/-- Nothing, as often as it stands there, is nothing. -/
theorem times_if {n : Nat} {x : S26} (hr : rightB n x = true) (k : Nat) (l : List S38) : timesF (buildF n x) (if decide (sizeF n x 1 = 0) = true then 0 else k) l = timesF (buildF n x) k l := by
  by_cases h : sizeF n x 1 = 0
  · rw [decide_eq_true h, if_pos rfl]
    have h0 : lenF n x = 0 := by rw [size_len (by omega) n x hr] at h; omega
    have hf : ∀ l, buildF n x l = l := by
      intro l
      obtain ⟨t, ht⟩ := (Stp.build n x hr l).1
      have := len_build n x hr l
      rw [ht, List.length_append] at this
      have : t = [] := List.eq_nil_of_length_eq_zero (by omega)
      rw [ht, this, List.append_nil]
    rw [times_none hf, times_none hf]
  · rw [decide_eq_false h]
    simp
set_option linter.unusedSectionVars false
def repN (n : Int) (x : S26) : S26 := ⟨5, [], n, n, false, [x]⟩
def repS (n : Int) (x : S26) : S26 := ⟨5, [], n, -1, true, [x]⟩
def starN (x : S26) : S26 := ⟨5, [], 0, -1, false, [x]⟩
def rowN (l : List S26) : S26 := ⟨3, [], 0, 0, false, l⟩
theorem comp_same {x y : S26} (hx : rightB 1000 x = true) (hy : rightB 1000 y = true) (h : buildF 1000 x [] = buildF 1000 y []) (most : Int) : compL x most = compL y most ∧ compE x most = compE y most := by
  have hl : lenF 1000 x = lenF 1000 y := by
    have a := len_build 1000 x hx []
    have b := len_build 1000 y hy []
    rw [h] at a
    simp only [List.length_nil, Nat.zero_add] at a b
    omega
  have hs : sizeR x 65536 = sizeR y 65536 := by
    unfold sizeR
    rw [if_pos hx, if_pos hy, size_len (by omega) 1000 x hx, size_len (by omega) 1000 y hy, hl]
  unfold compL compE
  rw [hx, hy, hs, h]
  exact ⟨rfl, rfl⟩
section
variable {x : S26} {n : Nat} (h8 : rightB 998 x = true) (h9 : rightB 999 x = true) (h2 : 2 ≤ n) (h12 : n ≤ 12)
include h8 h9 h2 h12
theorem right_repN : rightB 1000 (repN n x) = true := by
  show (nodeB (repN n x) && (repN n x).f5.all (rightB 999)) = true
  rw [node_rep rfl]
  simp [repN, h9]
  exact ⟨decide_eq_true (by omega), decide_eq_true (by omega)⟩
theorem right_repS : rightB 1000 (repS n x) = true := by
  show (nodeB (repS n x) && (repS n x).f5.all (rightB 999)) = true
  rw [node_rep rfl]
  simp [repS, h9]
  exact decide_eq_true (by omega)
theorem right_rowN : rightB 1000 (rowN (List.replicate n x)) = true := by
  show (nodeB (rowN (List.replicate n x)) && (rowN (List.replicate n x)).f5.all (rightB 999)) = true
  simp [rowN, nodeB, h9]; omega
theorem right_star : rightB 999 (starN x) = true := by
  show (nodeB (starN x) && (starN x).f5.all (rightB 998)) = true
  simp [starN, nodeB, h8]
theorem right_rowS : rightB 1000 (rowN (List.replicate n x ++ [starN x])) = true := by
  have hs := right_star h8 h9 h2 h12
  show (nodeB (rowN (List.replicate n x ++ [starN x])) && (rowN (List.replicate n x ++ [starN x])).f5.all (rightB 999)) = true
  simp [rowN, nodeB, h9, hs]; omega
theorem build_repN : buildF 1000 (repN n x) [] = buildF 1000 (rowN (List.replicate n x)) [] := by
  rw [build_rept (n := 999) rfl, build_rowx (n := 999) rfl]
  show repF (decide (sizeF 999 x 1 = 0)) (buildF 999 x) (repN n x) [] = (List.replicate n x).foldl (fun l y => buildF 999 y l) []
  rw [foldl_rep]
  unfold repF
  rw [if_neg (by show ¬ (n : Int) < 0; omega)]
  show optF _ ((n : Int) - n).toNat (timesF _ (if _ then 0 else ((n : Int)).toNat) []) = _
  rw [show ((n : Int) - n).toNat = 0 from by omega, show ((n : Int)).toNat = n from by omega, times_if h9]
  rfl
theorem build_repS : buildF 1000 (repS n x) [] = buildF 1000 (rowN (List.replicate n x ++ [starN x])) [] := by
  rw [build_rept (n := 999) rfl, build_rowx (n := 999) rfl]
  show repF (decide (sizeF 999 x 1 = 0)) (buildF 999 x) (repS n x) [] = (List.replicate n x ++ [starN x]).foldl (fun l y => buildF 999 y l) []
  rw [List.foldl_append, foldl_rep]
  show _ = buildF 999 (starN x) _
  rw [build_rept (n := 998) rfl]
  show _ = repF (decide (sizeF 998 x 1 = 0)) (buildF 998 x) (starN x) _
  unfold repF
  rw [if_pos (show (repS n x).f3 < 0 from (by show (-1 : Int) < 0; omega)), if_pos (show (starN x).f3 < 0 from (by show (-1 : Int) < 0; omega))]
  show starF _ (timesF _ (if _ then 0 else ((n : Int)).toNat) []) = starF _ (timesF _ (if _ then 0 else ((0 : Int)).toNat) _)
  rw [show ((n : Int)).toNat = n from by omega, times_if h9, show ((0 : Int)).toNat = 0 from rfl, build_level 998 999 x h8 h9]
  split <;> rfl
end
theorem ok_comp (x : S26) (most : Int) : okL (compL x most) ∧ (compL x most).length ≤ 65536 := by
  unfold compL
  by_cases hr : rightB 1000 x = true
  · rw [if_pos hr]
    by_cases hb : sizeR x 65536 ≤ most ∧ sizeR x 65536 ≤ 65536
    · rw [if_pos hb]
      refine ⟨ok_build hr, ?_⟩
      have := (size_small hr hb.2).2
      simp
      omega
    · rw [if_neg hb]; exact ⟨fun s hs => by simp at hs, by simp⟩
  · rw [if_neg hr]; exact ⟨fun s hs => by simp at hs, by simp⟩
end Go.Proofs.Ytbgfobdlnlkfiaa.A
/- caliperref10.Same at two copies of the same states: true. -/
namespace Go.Proofs.Ytbgfobdlnlkfiaa.A
open Go.RowKit Go.Proofs.YtbgfobdlnlkfiaaW.PrintWords Go.Proofs.YtbgfobdlnlkfiaaW.PrintLast Go.Proofs.YtbgfobdlnlkfiaaW.PrintMore
attribute [local go_sem] max2_int min2_int max_two min_two max_three min_three max_four min_four
set_option linter.unusedVariables false
set_option linter.unusedSimpArgs false


theorem ranges_same (l : List S54) (hm : l.length ≤ 8796093022208) : ∀ (d i : Nat), i + d = l.length → Ev (fun k => caliperref09_Ranges.l0 k l l (i : Int)) true
  | 0, i, hi => Ev.step (f := fun _ => some true) (fun k => by simp only [caliperref09_Ranges.l0]; rw [if_neg (by omega)]) (Ev.now _)
  | d + 1, i, hi => by
    have ew : wrap64 ((i : Int) + 1) = ((i + 1 : Nat) : Int) := by unfold wrap64; omega
    refine Ev.step (fun k => ?_) (ranges_same l hm d (i + 1) (by omega))
    simp only [caliperref09_Ranges.l0]
    rw [if_pos (by omega), if_pos (by omega), if_pos (by omega), if_neg (by simp), ew]
theorem ranges_same_k (l : List S54) (hm : l.length ≤ 8796093022208) : ∃ k, caliperref09_Ranges.f k l l = some true := by
  have h := ranges_same l hm l.length 0 (by omega)
  have h2 : Ev (fun k => caliperref09_Ranges.f k l l) true := Ev.congr (fun k => by unfold caliperref09_Ranges.f; rw [if_pos rfl]; rfl) h
  exact h2.rounds
set_option maxHeartbeats 8000000 in
set_option maxRecDepth 100000 in
theorem same_calls (l : List S38) (A0 : Option Addr) (c0 : Nat) (A1 : Option Addr) (c1 : Nat) (w : World) (hr0 : k38.C w A0 l.length l) (hc0 : l.length ≤ c0) (hr1 : k38.C w A1 l.length l) (hc1 : l.length ≤ c1) (hm : l.length ≤ 8796093022208) (hk : okL l) :
    Calls Try.prog 16 #[.slice A0 l.length c0, .slice A1 l.length c1] w fun e w' => e = .returned (.bool true) ∧ Below w.heap.size w w' := by
  have hu38 := Try.underlying38
  have hnot : ∀ (x : Bool) (w : World), (Op.unary .not (.bool x)).run Try.prog w = .ok (.bool (!x)) w := fun _ _ => rfl
  have HR0 := Tk.mk hr0
  have HC0 := Tk.mk hc0
  have HR1 := Tk.mk hr1
  have HC1 := Tk.mk hc1
  have HK := Tk.mk hk
  clear hr0 hc0 hr1 hc1 hk
  go_enter Try.func16, Try.ntmps16
  go_wp2
  go_loopg [5] l.length (fun kq v5 w' => ∃ (j : Nat), v5 = .int .i64 j ∧ Aside0 (j ≤ l.length ∧ kq = l.length - j) ∧ Aside0 (Below w.heap.size w w'))
  case atStart => exact ⟨0, rfl, ⟨by omega, by omega⟩, ⟨Below.refl _ _⟩⟩
  case round =>
    obtain ⟨j, rfl, HJ, HB⟩ := hrel
    by_cases hlt : j < l.length
    · have HLT := Tk.mk hlt
      have hlx : (j : Int) < (l.length : Int) := by omega
      have hj0 : 0 ≤ (j : Int) := by omega
      obtain ⟨ad, P1, p1, e1, hx0, hx1, hx2, hx3, hl1, hi1⟩ := at_T38 (Kd.C_below HR0.out HB.out) (j : Int) hj0 hlx
      cases e1
      obtain ⟨ad2, P2, p2, e2, hy0, hy1, hy2, hy3, hl2, hi2⟩ := at_T38 (Kd.C_below HR1.out HB.out) (j : Int) hj0 hlx
      cases e2
      simp only [Int.toNat_natCast] at hx0 hx1 hx2 hx3 hy0 hy1 hy2 hy3
      obtain ⟨kk, hkk⟩ := ranges_same_k (rd_T38 l (j : Int)).f1 (by have := HK.out _ (rd38_mem l j hlt); omega)
      have HKK := Tk.mk hkk
      have HP := Tk.mk (And.intro hl1 (And.intro hi1 (And.intro hl2 hi2)))
      clear hlt hkk hl1 hi1 hl2 hi2
      go_wp2
      refine start_ (n := 51) (S := fun W => Below wr.heap.size wr W) (ds := []) (msk 51 0) (by kernel_rfl) rfl (by kernel_rfl) (below_drew (Below.refl _ _)) (fun hSt => ?_)
      generalize wr.drew = w3 at hSt ⊢
      refine pure_ (i := 0) (N := (some 17)) (v := ?_) (a' := ?_) (msk 51 1) rfl rfl (by kernel_rfl) (fun _ _ _ h => h) (Or.inl ⟨by rfl, ?_⟩) ?_ ?_
      rotate_left
      · intro w'
        go_simp
        with_reducible rfl
      rotate_left
      · simp only [Act.put, List.setIfInBounds_toArray, List.set_cons_zero, List.set_cons_succ, i64_w, i32_w]
        rfl
      refine pure_ (i := 1) (N := (some 18)) (v := ?_) (a' := ?_) (msk 51 3) rfl rfl (by kernel_rfl) (fun _ _ _ h => h) (Or.inl ⟨by rfl, ?_⟩) ?_ ?_
      rotate_left
      · intro w'
        go_simp
        with_reducible rfl
      rotate_left
      · simp only [Act.put, List.setIfInBounds_toArray, List.set_cons_zero, List.set_cons_succ, i64_w, i32_w]
        rfl
      refine pure_ (i := 2) (N := (some 19)) (v := ?_) (a' := ?_) (msk 51 7) rfl rfl (by kernel_rfl) (fun _ _ _ h => h) (Or.inl ⟨by rfl, ?_⟩) ?_ ?_
      rotate_left
      · intro w'
        go_simp
        with_reducible rfl
      rotate_left
      · simp only [Act.put, List.setIfInBounds_toArray, List.set_cons_zero, List.set_cons_succ, i64_w, i32_w]
        rfl
      refine pure_ (i := 3) (N := (some 20)) (v := ?_) (a' := ?_) (msk 51 15) rfl rfl (by kernel_rfl) (fun _ _ _ h => h) (Or.inl ⟨by rfl, ?_⟩) ?_ ?_
      rotate_left
      · intro w'
        go_simp
        with_reducible rfl
      rotate_left
      · simp only [Act.put, List.setIfInBounds_toArray, List.set_cons_zero, List.set_cons_succ, i64_w, i32_w]
        rfl
      refine take_ (i := 4) (N := (some 21)) (v := ?_) (a' := ?_) (msk 51 31) rfl rfl (by kernel_rfl) (fun _ _ _ h => h) (Or.inl ⟨by rfl, ?_⟩) hSt ?_ ?_
      rotate_left
      · intro w' hSw
        have qx0 := pw_cell_below hSw hx0; have qx1 := pw_cell_below hSw hx1; have qx2 := pw_cell_below hSw hx2; have qx3 := pw_cell_below hSw hx3; have qy0 := pw_cell_below hSw hy0; have qy1 := pw_cell_below hSw hy1; have qy2 := pw_cell_below hSw hy2; have qy3 := pw_cell_below hSw hy3; clear hSw
        go_simp
        with_reducible rfl
      rotate_left
      · simp only [Act.put, List.setIfInBounds_toArray, List.set_cons_zero, List.set_cons_succ, i64_w, i32_w]
        rfl
      refine pure_ (i := 5) (N := (some 22)) (v := ?_) (a' := ?_) (msk 51 63) rfl rfl (by kernel_rfl) (fun _ _ _ h => h) (Or.inl ⟨by rfl, ?_⟩) ?_ ?_
      rotate_left
      · intro w'
        go_simp
        with_reducible rfl
      rotate_left
      · simp only [Act.put, List.setIfInBounds_toArray, List.set_cons_zero, List.set_cons_succ, i64_w, i32_w]
        rfl
      refine pure_ (i := 6) (N := (some 23)) (v := ?_) (a' := ?_) (msk 51 127) rfl rfl (by kernel_rfl) (fun _ _ _ h => h) (Or.inl ⟨by rfl, ?_⟩) ?_ ?_
      rotate_left
      · intro w'
        go_simp
        with_reducible rfl
      rotate_left
      · simp only [Act.put, List.setIfInBounds_toArray, List.set_cons_zero, List.set_cons_succ, i64_w, i32_w]
        rfl
      refine pure_ (i := 7) (N := (some 24)) (v := ?_) (a' := ?_) (msk 51 255) rfl rfl (by kernel_rfl) (fun _ _ _ h => h) (Or.inl ⟨by rfl, ?_⟩) ?_ ?_
      rotate_left
      · intro w'
        go_simp
        with_reducible rfl
      rotate_left
      · simp only [Act.put, List.setIfInBounds_toArray, List.set_cons_zero, List.set_cons_succ, i64_w, i32_w]
        rfl
      refine pure_ (i := 8) (N := (some 25)) (v := ?_) (a' := ?_) (msk 51 511) rfl rfl (by kernel_rfl) (fun _ _ _ h => h) (Or.inl ⟨by rfl, ?_⟩) ?_ ?_
      rotate_left
      · intro w'
        go_simp
        with_reducible rfl
      rotate_left
      · simp only [Act.put, List.setIfInBounds_toArray, List.set_cons_zero, List.set_cons_succ, i64_w, i32_w]
        rfl
      refine take_ (i := 9) (N := (some 26)) (v := ?_) (a' := ?_) (msk 51 1023) rfl rfl (by kernel_rfl) (fun _ _ _ h => h) (Or.inl ⟨by rfl, ?_⟩) hSt ?_ ?_
      rotate_left
      · intro w' hSw
        have qx0 := pw_cell_below hSw hx0; have qx1 := pw_cell_below hSw hx1; have qx2 := pw_cell_below hSw hx2; have qx3 := pw_cell_below hSw hx3; have qy0 := pw_cell_below hSw hy0; have qy1 := pw_cell_below hSw hy1; have qy2 := pw_cell_below hSw hy2; have qy3 := pw_cell_below hSw hy3; clear hSw
        go_simp
        with_reducible rfl
      rotate_left
      · simp only [Act.put, List.setIfInBounds_toArray, List.set_cons_zero, List.set_cons_succ, i64_w, i32_w]
        rfl
      refine pure_ (i := 10) (N := (some 27)) (v := ?_) (a' := ?_) (msk 51 2047) rfl rfl (by kernel_rfl) (fun _ _ _ h => h) (Or.inl ⟨by rfl, ?_⟩) ?_ ?_
      rotate_left
      · intro w'
        go_simp
        with_reducible rfl
      rotate_left
      · simp only [Act.put, List.setIfInBounds_toArray, List.set_cons_zero, List.set_cons_succ, i64_w, i32_w]
        rfl
      refine pure_ (i := 11) (N := (some 28)) (v := ?_) (a' := ?_) (msk 51 4095) rfl rfl (by kernel_rfl) (fun _ _ _ h => h) (Or.inl ⟨by rfl, ?_⟩) ?_ ?_
      rotate_left
      · intro w'
        go_simp
        with_reducible rfl
      rotate_left
      · simp only [Act.put, List.setIfInBounds_toArray, List.set_cons_zero, List.set_cons_succ, i64_w, i32_w]
        rfl
      refine pure_ (i := 12) (N := (some 29)) (v := ?_) (a' := ?_) (msk 51 8191) rfl rfl (by kernel_rfl) (fun _ _ _ h => h) (Or.inl ⟨by rfl, ?_⟩) ?_ ?_
      rotate_left
      · intro w'
        go_simp
        with_reducible rfl
      rotate_left
      · simp only [Act.put, List.setIfInBounds_toArray, List.set_cons_zero, List.set_cons_succ, i64_w, i32_w]
        rfl
      refine pure_ (i := 13) (N := (some 30)) (v := ?_) (a' := ?_) (msk 51 16383) rfl rfl (by kernel_rfl) (fun _ _ _ h => h) (Or.inl ⟨by rfl, ?_⟩) ?_ ?_
      rotate_left
      · intro w'
        go_simp
        with_reducible rfl
      rotate_left
      · simp only [Act.put, List.setIfInBounds_toArray, List.set_cons_zero, List.set_cons_succ, i64_w, i32_w]
        rfl
      refine pure_ (i := 14) (N := (some 31)) (v := ?_) (a' := ?_) (msk 51 32767) rfl rfl (by kernel_rfl) (fun _ _ _ h => h) (Or.inl ⟨by rfl, ?_⟩) ?_ ?_
      rotate_left
      · intro w'
        go_simp
        with_reducible rfl
      rotate_left
      · simp only [Act.put, List.setIfInBounds_toArray, List.set_cons_zero, List.set_cons_succ, i64_w, i32_w]
        rfl
      refine pure_ (i := 15) (N := (some 32)) (v := ?_) (a' := ?_) (msk 51 65535) rfl rfl (by kernel_rfl) (fun _ _ _ h => h) (Or.inl ⟨by rfl, ?_⟩) ?_ ?_
      rotate_left
      · intro w'
        go_simp
        with_reducible rfl
      rotate_left
      · simp only [Act.put, List.setIfInBounds_toArray, List.set_cons_zero, List.set_cons_succ, i64_w, i32_w]
        rfl
      refine take_ (i := 16) (N := (some 33)) (v := ?_) (a' := ?_) (msk 51 131071) rfl rfl (by kernel_rfl) (fun _ _ _ h => h) (Or.inl ⟨by rfl, ?_⟩) hSt ?_ ?_
      rotate_left
      · intro w' hSw
        have qx0 := pw_cell_below hSw hx0; have qx1 := pw_cell_below hSw hx1; have qx2 := pw_cell_below hSw hx2; have qx3 := pw_cell_below hSw hx3; have qy0 := pw_cell_below hSw hy0; have qy1 := pw_cell_below hSw hy1; have qy2 := pw_cell_below hSw hy2; have qy3 := pw_cell_below hSw hy3; clear hSw
        go_simp
        with_reducible rfl
      rotate_left
      · simp only [Act.put, List.setIfInBounds_toArray, List.set_cons_zero, List.set_cons_succ, i64_w, i32_w]
        rfl
      refine pure_ (i := 17) (N := (some 34)) (v := ?_) (a' := ?_) (msk 51 262143) rfl rfl (by kernel_rfl) (fun _ _ _ h => h) (Or.inl ⟨by rfl, ?_⟩) ?_ ?_
      rotate_left
      · intro w'
        go_simp
        with_reducible rfl
      rotate_left
      · simp only [Act.put, List.setIfInBounds_toArray, List.set_cons_zero, List.set_cons_succ, i64_w, i32_w]
        rfl
      refine pure_ (i := 18) (N := (some 35)) (v := ?_) (a' := ?_) (msk 51 524287) rfl rfl (by kernel_rfl) (fun _ _ _ h => h) (Or.inl ⟨by rfl, ?_⟩) ?_ ?_
      rotate_left
      · intro w'
        go_simp
        with_reducible rfl
      rotate_left
      · simp only [Act.put, List.setIfInBounds_toArray, List.set_cons_zero, List.set_cons_succ, i64_w, i32_w]
        rfl
      refine pure_ (i := 19) (N := (some 36)) (v := ?_) (a' := ?_) (msk 51 1048575) rfl rfl (by kernel_rfl) (fun _ _ _ h => h) (Or.inl ⟨by rfl, ?_⟩) ?_ ?_
      rotate_left
      · intro w'
        go_simp
        with_reducible rfl
      rotate_left
      · simp only [Act.put, List.setIfInBounds_toArray, List.set_cons_zero, List.set_cons_succ, i64_w, i32_w]
        rfl
      refine pure_ (i := 20) (N := (some 37)) (v := ?_) (a' := ?_) (msk 51 2097151) rfl rfl (by kernel_rfl) (fun _ _ _ h => h) (Or.inl ⟨by rfl, ?_⟩) ?_ ?_
      rotate_left
      · intro w'
        go_simp
        with_reducible rfl
      rotate_left
      · simp only [Act.put, List.setIfInBounds_toArray, List.set_cons_zero, List.set_cons_succ, i64_w, i32_w]
        rfl
      refine take_ (i := 21) (N := (some 38)) (v := ?_) (a' := ?_) (msk 51 4194303) rfl rfl (by kernel_rfl) (fun _ _ _ h => h) (Or.inl ⟨by rfl, ?_⟩) hSt ?_ ?_
      rotate_left
      · intro w' hSw
        have qx0 := pw_cell_below hSw hx0; have qx1 := pw_cell_below hSw hx1; have qx2 := pw_cell_below hSw hx2; have qx3 := pw_cell_below hSw hx3; have qy0 := pw_cell_below hSw hy0; have qy1 := pw_cell_below hSw hy1; have qy2 := pw_cell_below hSw hy2; have qy3 := pw_cell_below hSw hy3; clear hSw
        go_simp
        with_reducible rfl
      rotate_left
      · simp only [Act.put, List.setIfInBounds_toArray, List.set_cons_zero, List.set_cons_succ, i64_w, i32_w]
        rfl
      refine pure_ (i := 22) (N := (some 39)) (v := ?_) (a' := ?_) (msk 51 8388607) rfl rfl (by kernel_rfl) (fun _ _ _ h => h) (Or.inl ⟨by rfl, ?_⟩) ?_ ?_
      rotate_left
      · intro w'
        go_simp
        with_reducible rfl
      rotate_left
      · simp only [Act.put, List.setIfInBounds_toArray, List.set_cons_zero, List.set_cons_succ, i64_w, i32_w]
        rfl
      refine pure_ (i := 23) (N := (some 40)) (v := ?_) (a' := ?_) (msk 51 16777215) rfl rfl (by kernel_rfl) (fun _ _ _ h => h) (Or.inl ⟨by rfl, ?_⟩) ?_ ?_
      rotate_left
      · intro w'
        go_simp
        with_reducible rfl
      rotate_left
      · simp only [Act.put, List.setIfInBounds_toArray, List.set_cons_zero, List.set_cons_succ, i64_w, i32_w]
        rfl
      refine pure_ (i := 24) (N := (some 41)) (v := ?_) (a' := ?_) (msk 51 33554431) rfl rfl (by kernel_rfl) (fun _ _ _ h => h) (Or.inl ⟨by rfl, ?_⟩) ?_ ?_
      rotate_left
      · intro w'
        go_simp
        with_reducible rfl
      rotate_left
      · simp only [Act.put, List.setIfInBounds_toArray, List.set_cons_zero, List.set_cons_succ, i64_w, i32_w]
        rfl
      refine pure_ (i := 25) (N := (some 42)) (v := ?_) (a' := ?_) (msk 51 67108863) rfl rfl (by kernel_rfl) (fun _ _ _ h => h) (Or.inl ⟨by rfl, ?_⟩) ?_ ?_
      rotate_left
      · intro w'
        go_simp
        with_reducible rfl
      rotate_left
      · simp only [Act.put, List.setIfInBounds_toArray, List.set_cons_zero, List.set_cons_succ, i64_w, i32_w]
        rfl
      refine pure_ (i := 26) (N := (some 43)) (v := ?_) (a' := ?_) (msk 51 134217727) rfl rfl (by kernel_rfl) (fun _ _ _ h => h) (Or.inl ⟨by rfl, ?_⟩) ?_ ?_
      rotate_left
      · intro w'
        go_simp
        with_reducible rfl
      rotate_left
      · simp only [Act.put, List.setIfInBounds_toArray, List.set_cons_zero, List.set_cons_succ, i64_w, i32_w]
        rfl
      refine pure_ (i := 27) (N := (some 44)) (v := ?_) (a' := ?_) (msk 51 268435455) rfl rfl (by kernel_rfl) (fun _ _ _ h => h) (Or.inl ⟨by rfl, ?_⟩) ?_ ?_
      rotate_left
      · intro w'
        go_simp
        with_reducible rfl
      rotate_left
      · simp only [Act.put, List.setIfInBounds_toArray, List.set_cons_zero, List.set_cons_succ, i64_w, i32_w]
        rfl
      refine pure_ (i := 28) (N := (some 45)) (v := ?_) (a' := ?_) (msk 51 536870911) rfl rfl (by kernel_rfl) (fun _ _ _ h => h) (Or.inl ⟨by rfl, ?_⟩) ?_ ?_
      rotate_left
      · intro w'
        go_simp
        with_reducible rfl
      rotate_left
      · simp only [Act.put, List.setIfInBounds_toArray, List.set_cons_zero, List.set_cons_succ, i64_w, i32_w]
        rfl
      refine take_ (i := 29) (N := (some 46)) (v := ?_) (a' := ?_) (msk 51 1073741823) rfl rfl (by kernel_rfl) (fun _ _ _ h => h) (Or.inl ⟨by rfl, ?_⟩) hSt ?_ ?_
      rotate_left
      · intro w' hSw
        have qx0 := pw_cell_below hSw hx0; have qx1 := pw_cell_below hSw hx1; have qx2 := pw_cell_below hSw hx2; have qx3 := pw_cell_below hSw hx3; have qy0 := pw_cell_below hSw hy0; have qy1 := pw_cell_below hSw hy1; have qy2 := pw_cell_below hSw hy2; have qy3 := pw_cell_below hSw hy3; clear hSw
        go_simp
        with_reducible rfl
      rotate_left
      · simp only [Act.put, List.setIfInBounds_toArray, List.set_cons_zero, List.set_cons_succ, i64_w, i32_w]
        rfl
      refine pure_ (i := 30) (N := (some 47)) (v := ?_) (a' := ?_) (msk 51 2147483647) rfl rfl (by kernel_rfl) (fun _ _ _ h => h) (Or.inl ⟨by rfl, ?_⟩) ?_ ?_
      rotate_left
      · intro w'
        go_simp
        with_reducible rfl
      rotate_left
      · simp only [Act.put, List.setIfInBounds_toArray, List.set_cons_zero, List.set_cons_succ, i64_w, i32_w]
        rfl
      refine pure_ (i := 31) (N := (some 48)) (v := ?_) (a' := ?_) (msk 51 4294967295) rfl rfl (by kernel_rfl) (fun _ _ _ h => h) (Or.inl ⟨by rfl, ?_⟩) ?_ ?_
      rotate_left
      · intro w'
        go_simp
        with_reducible rfl
      rotate_left
      · simp only [Act.put, List.setIfInBounds_toArray, List.set_cons_zero, List.set_cons_succ, i64_w, i32_w]
        rfl
      refine pure_ (i := 32) (N := (some 49)) (v := ?_) (a' := ?_) (msk 51 8589934591) rfl rfl (by kernel_rfl) (fun _ _ _ h => h) (Or.inl ⟨by rfl, ?_⟩) ?_ ?_
      rotate_left
      · intro w'
        go_simp
        with_reducible rfl
      rotate_left
      · simp only [Act.put, List.setIfInBounds_toArray, List.set_cons_zero, List.set_cons_succ, i64_w, i32_w]
        rfl
      refine pure_ (i := 33) (N := (some 50)) (v := ?_) (a' := ?_) (msk 51 17179869183) rfl rfl (by kernel_rfl) (fun _ _ _ h => h) (Or.inl ⟨by rfl, ?_⟩) ?_ ?_
      rotate_left
      · intro w'
        go_simp
        with_reducible rfl
      rotate_left
      · simp only [Act.put, List.setIfInBounds_toArray, List.set_cons_zero, List.set_cons_succ, i64_w, i32_w]
        rfl
      refine take_ (i := 34) (N := (some 51)) (v := ?_) (a' := ?_) (msk 51 34359738367) rfl rfl (by kernel_rfl) (fun _ _ _ h => h) (Or.inl ⟨by rfl, ?_⟩) hSt ?_ ?_
      rotate_left
      · intro w' hSw
        have qx0 := pw_cell_below hSw hx0; have qx1 := pw_cell_below hSw hx1; have qx2 := pw_cell_below hSw hx2; have qx3 := pw_cell_below hSw hx3; have qy0 := pw_cell_below hSw hy0; have qy1 := pw_cell_below hSw hy1; have qy2 := pw_cell_below hSw hy2; have qy3 := pw_cell_below hSw hy3; clear hSw
        go_simp
        with_reducible rfl
      rotate_left
      · simp only [Act.put, List.setIfInBounds_toArray, List.set_cons_zero, List.set_cons_succ, i64_w, i32_w]
        rfl
      refine pure_ (i := 35) (N := (some 52)) (v := ?_) (a' := ?_) (msk 51 68719476735) rfl rfl (by kernel_rfl) (fun _ _ _ h => h) (Or.inl ⟨by rfl, ?_⟩) ?_ ?_
      rotate_left
      · intro w'
        go_simp
        with_reducible rfl
      rotate_left
      · simp only [Act.put, List.setIfInBounds_toArray, List.set_cons_zero, List.set_cons_succ, i64_w, i32_w]
        rfl
      refine pure_ (i := 36) (N := (some 53)) (v := ?_) (a' := ?_) (msk 51 137438953471) rfl rfl (by kernel_rfl) (fun _ _ _ h => h) (Or.inl ⟨by rfl, ?_⟩) ?_ ?_
      rotate_left
      · intro w'
        go_simp
        with_reducible rfl
      rotate_left
      · simp only [Act.put, List.setIfInBounds_toArray, List.set_cons_zero, List.set_cons_succ, i64_w, i32_w]
        rfl
      refine pure_ (i := 37) (N := (some 54)) (v := ?_) (a' := ?_) (msk 51 274877906943) rfl rfl (by kernel_rfl) (fun _ _ _ h => h) (Or.inl ⟨by rfl, ?_⟩) ?_ ?_
      rotate_left
      · intro w'
        go_simp
        with_reducible rfl
      rotate_left
      · simp only [Act.put, List.setIfInBounds_toArray, List.set_cons_zero, List.set_cons_succ, i64_w, i32_w]
        rfl
      refine pure_ (i := 38) (N := (some 55)) (v := ?_) (a' := ?_) (msk 51 549755813887) rfl rfl (by kernel_rfl) (fun _ _ _ h => h) (Or.inl ⟨by rfl, ?_⟩) ?_ ?_
      rotate_left
      · intro w'
        go_simp
        with_reducible rfl
      rotate_left
      · simp only [Act.put, List.setIfInBounds_toArray, List.set_cons_zero, List.set_cons_succ, i64_w, i32_w]
        rfl
      refine pure_ (i := 39) (N := (some 56)) (v := ?_) (a' := ?_) (msk 51 1099511627775) rfl rfl (by kernel_rfl) (fun _ _ _ h => h) (Or.inl ⟨by rfl, ?_⟩) ?_ ?_
      rotate_left
      · intro w'
        go_simp
        with_reducible rfl
      rotate_left
      · simp only [Act.put, List.setIfInBounds_toArray, List.set_cons_zero, List.set_cons_succ, i64_w, i32_w]
        rfl
      refine pure_ (i := 40) (N := (some 57)) (v := ?_) (a' := ?_) (msk 51 2199023255551) rfl rfl (by kernel_rfl) (fun _ _ _ h => h) (Or.inl ⟨by rfl, ?_⟩) ?_ ?_
      rotate_left
      · intro w'
        go_simp
        with_reducible rfl
      rotate_left
      · simp only [Act.put, List.setIfInBounds_toArray, List.set_cons_zero, List.set_cons_succ, i64_w, i32_w]
        rfl
      refine pure_ (i := 41) (N := (some 58)) (v := ?_) (a' := ?_) (msk 51 4398046511103) rfl rfl (by kernel_rfl) (fun _ _ _ h => h) (Or.inl ⟨by rfl, ?_⟩) ?_ ?_
      rotate_left
      · intro w'
        go_simp
        with_reducible rfl
      rotate_left
      · simp only [Act.put, List.setIfInBounds_toArray, List.set_cons_zero, List.set_cons_succ, i64_w, i32_w]
        rfl
      refine take_ (i := 42) (N := (some 59)) (v := ?_) (a' := ?_) (msk 51 8796093022207) rfl rfl (by kernel_rfl) (fun _ _ _ h => h) (Or.inl ⟨by rfl, ?_⟩) hSt ?_ ?_
      rotate_left
      · intro w' hSw
        have qx0 := pw_cell_below hSw hx0; have qx1 := pw_cell_below hSw hx1; have qx2 := pw_cell_below hSw hx2; have qx3 := pw_cell_below hSw hx3; have qy0 := pw_cell_below hSw hy0; have qy1 := pw_cell_below hSw hy1; have qy2 := pw_cell_below hSw hy2; have qy3 := pw_cell_below hSw hy3; clear hSw
        go_simp
        with_reducible rfl
      rotate_left
      · simp only [Act.put, List.setIfInBounds_toArray, List.set_cons_zero, List.set_cons_succ, i64_w, i32_w]
        rfl
      refine pure_ (i := 43) (N := (some 60)) (v := ?_) (a' := ?_) (msk 51 17592186044415) rfl rfl (by kernel_rfl) (fun _ _ _ h => h) (Or.inl ⟨by rfl, ?_⟩) ?_ ?_
      rotate_left
      · intro w'
        go_simp
        with_reducible rfl
      rotate_left
      · simp only [Act.put, List.setIfInBounds_toArray, List.set_cons_zero, List.set_cons_succ, i64_w, i32_w]
        rfl
      refine pure_ (i := 44) (N := (some 61)) (v := ?_) (a' := ?_) (msk 51 35184372088831) rfl rfl (by kernel_rfl) (fun _ _ _ h => h) (Or.inl ⟨by rfl, ?_⟩) ?_ ?_
      rotate_left
      · intro w'
        go_simp
        with_reducible rfl
      rotate_left
      · simp only [Act.put, List.setIfInBounds_toArray, List.set_cons_zero, List.set_cons_succ, i64_w, i32_w]
        rfl
      refine pure_ (i := 45) (N := (some 62)) (v := ?_) (a' := ?_) (msk 51 70368744177663) rfl rfl (by kernel_rfl) (fun _ _ _ h => h) (Or.inl ⟨by rfl, ?_⟩) ?_ ?_
      rotate_left
      · intro w'
        go_simp
        with_reducible rfl
      rotate_left
      · simp only [Act.put, List.setIfInBounds_toArray, List.set_cons_zero, List.set_cons_succ, i64_w, i32_w]
        rfl
      refine pure_ (i := 46) (N := (some 63)) (v := ?_) (a' := ?_) (msk 51 140737488355327) rfl rfl (by kernel_rfl) (fun _ _ _ h => h) (Or.inl ⟨by rfl, ?_⟩) ?_ ?_
      rotate_left
      · intro w'
        go_simp
        with_reducible rfl
      rotate_left
      · simp only [Act.put, List.setIfInBounds_toArray, List.set_cons_zero, List.set_cons_succ, i64_w, i32_w]
        rfl
      refine take_ (i := 47) (N := (some 64)) (v := ?_) (a' := ?_) (msk 51 281474976710655) rfl rfl (by kernel_rfl) (fun _ _ _ h => h) (Or.inl ⟨by rfl, ?_⟩) hSt ?_ ?_
      rotate_left
      · intro w' hSw
        have qx0 := pw_cell_below hSw hx0; have qx1 := pw_cell_below hSw hx1; have qx2 := pw_cell_below hSw hx2; have qx3 := pw_cell_below hSw hx3; have qy0 := pw_cell_below hSw hy0; have qy1 := pw_cell_below hSw hy1; have qy2 := pw_cell_below hSw hy2; have qy3 := pw_cell_below hSw hy3; clear hSw
        go_simp
        with_reducible rfl
      rotate_left
      · simp only [Act.put, List.setIfInBounds_toArray, List.set_cons_zero, List.set_cons_succ, i64_w, i32_w]
        rfl
      refine one_ (i := 48) (N := (some 65)) (msk 51 562949953421311) rfl rfl (by kernel_rfl) (by decide) (fun K hK => ?_)
      refine goes_ Try.func34 (by kernel_rfl) rfl #[.slice P1 (rd_T38 l (j : Int)).f1.length p1, .slice P2 (rd_T38 l (j : Int)).f1.length p2] (by rfl) rfl rfl (by simp only [List.map_toArray, List.map_cons, List.map_nil]; rfl) ?_
      refine (caliperref09_Ranges.calls kk P1 p1 (rd_T38 l (j : Int)).f1 P2 p2 (rd_T38 l (j : Int)).f1 true _ (Kd.C_below HP.out.2.1 hSt) HP.out.1 (Kd.C_below HP.out.2.2.2 hSt) HP.out.2.2.1 HKK.out).mono ?_
      rintro e w4 ⟨rfl, ⟨nd, rfl⟩⟩
      refine ⟨_, rfl, ?_⟩
      refine hK.out _ _ (pw_below_drewN hSt nd) (fun hSt2 => ?_)
      clear hSt
      have hSt := hSt2
      clear hSt2
      clear hK K
      refine norm_ (a' := ?_) ?_ ?_
      rotate_left
      · show Act.put _ (some 65) _ = _
        simp only [Act.put, List.setIfInBounds_toArray, List.set_cons_zero, List.set_cons_succ, i64_w, i32_w]
        rfl
      refine pure_ (i := 49) (N := (some 66)) (v := ?_) (a' := ?_) (msk 51 1125899906842623) rfl rfl (by kernel_rfl) (fun _ _ _ h => h) (Or.inl ⟨by rfl, ?_⟩) ?_ ?_
      rotate_left
      · intro w'
        go_simp
        with_reducible rfl
      rotate_left
      · simp only [Act.put, List.setIfInBounds_toArray, List.set_cons_zero, List.set_cons_succ, i64_w, i32_w]
        rfl
      refine pure_ (i := 50) (N := (some 67)) (v := ?_) (a' := ?_) (msk 51 2251799813685247) rfl rfl (by kernel_rfl) (fun _ _ _ h => h) (Or.inl ⟨by rfl, ?_⟩) ?_ ?_
      rotate_left
      · intro w'
        go_simp
        with_reducible rfl
      rotate_left
      · simp only [Act.put, List.setIfInBounds_toArray, List.set_cons_zero, List.set_cons_succ, i64_w, i32_w]
        rfl
      refine done_ (by kernel_rfl) ?_
      go_wp2
      go_roundg (l.length - (j + 1))
      case measure => have h1 := HJ.out; have h2 := HLT.out; omega
      case rel => exact ⟨j + 1, by go_num, ⟨HLT.out, rfl⟩, ⟨below_then HB.out HB.out.size hSt⟩⟩
    · have hge : (l.length : Int) ≤ (j : Int) := by omega
      go_wp2
      go_ret
      exact ⟨rfl, HB.out⟩
end Go.Proofs.Ytbgfobdlnlkfiaa.A
/- caliperlaw10.NfaWrites: it answers true. -/
namespace Go.Proofs.Ytbgfobdlnlkfiaa.A
open Go.RowKit Go.Proofs.YtbgfobdlnlkfiaaW.PrintWords Go.Proofs.YtbgfobdlnlkfiaaW.PrintLast Go.Proofs.YtbgfobdlnlkfiaaW.PrintMore
attribute [local go_sem] max2_int min2_int max_two min_two max_three min_three max_four min_four
set_option linter.unusedVariables false
set_option linter.unusedSimpArgs false


theorem info26 : (Try.prog.info? 26).map (fun i => (i.zero, i.size, i.bytes)) = some (some (.agg #[.int .i64 0, .slice none 0 0, .int .i64 0, .int .i64 0, .bool false, .slice none 0 0]), 6, 80) := by kernel_rfl
section
variable {P : Program}
theorem name_code {c : Code} {Q : Exit → Act → World → Prop} {a : Act} {W : World} (F : World → Prop) (hF : F W) (h : ∀ w', F w' → c.wp P Q a w') : c.wp P Q a W := h W hF
end
theorem OwnRow_far {α : Type} {R : α → List Value → Prop} {e : TypeId} {size base g : Nat} {w : World} {v : Value} {ps : List α} (h : OwnRow R e size w base v ps) (hg : g < base) (j : Nat) (u : Value) : OwnRow R e size (w.setCell ⟨g, j, none⟩ u) base v ps := by
  obtain ⟨inner, ho, hr⟩ := h
  exact ⟨inner, own_move ho (fun k hk => Below.heap_setCell w ⟨g, j, none⟩ u k (by have := own_base ho k hk; show k ≠ g; omega)), hr⟩
theorem OwnRow_ne {α : Type} {R : α → List Value → Prop} {e : TypeId} {size base g : Nat} {w : World} {v : Value} {ps : List α} (h : OwnRow R e size w base v ps) (hg : g < base) : some g ≠ v.ownBlock := by
  obtain ⟨inner, ho, hr⟩ := h
  intro e
  have := own_base ho g e.symm
  omega
theorem OwnRow_C {w0 w : World} {base : Nat} {v : Value} {ps : List S26} (h : OwnRow (k26.K w0) 26 6 w base v ps) (hb : Below w0.heap.size w0 w) : ∃ A c, v = .slice A ps.length c ∧ ps.length ≤ c ∧ k26.C w A ps.length ps := by
  obtain ⟨A, c, e, hl, hr⟩ := (h.imp_ (fun p cs hk => k26.K_below hb hk)).reads
  exact ⟨A, c, e, hl, hr⟩
theorem OwnRow_C' {w0 w : World} {base m c : Nat} {A : Option Addr} {ps : List S26} (h : OwnRow (k26.K w0) 26 6 w base (.slice A m c) ps) (hb : Below w0.heap.size w0 w) : m = ps.length ∧ ps.length ≤ c ∧ k26.C w A ps.length ps := by
  obtain ⟨A', c', e, hl, hC⟩ := OwnRow_C h hb
  injection e with e1 e2 e3
  subst e1 e2 e3
  exact ⟨rfl, hl, hC⟩
theorem C_block {α : Type} {d : Kd α} {W : World} {g e : Nat} {xs : List α} {inner : List Value} (h0 : W.heap[g]? = some (.cells inner.toArray e (0, 0))) (hrep : Reps (d.K W) d.sz xs inner) (hm : xs.length ≤ 9223372036854775807) : d.C W (some ⟨g, 0, none⟩) xs.length xs := by
  refine ⟨rfl, hm, fun _ => ⟨_, rfl, fun j p hj => ⟨(inner.drop (j * d.sz)).take d.sz, d.K_len (hrep.2 j p hj), hrep.2 j p hj, fun i u hu => ?_⟩⟩⟩
  have hi : i < d.sz := by
    have := (List.getElem?_eq_some_iff.1 hu).1
    rw [List.length_take] at this
    omega
  have h1 : inner[j * d.sz + i]? = some u := by
    rw [List.getElem?_take_of_lt hi, List.getElem?_drop] at hu
    exact hu
  exact World.news_of_block h0 (j * d.sz + i) u (by simpa using h1)
section
variable {P : Program} {ops : Array Oper} {o : Oper} {rest : List Oper} {a : Act} {Q : Exit → Act → World → Prop}
/-- A slice written out: its block. -/
theorem lit_block {W : World} (e : Nat) (hgd : o.guard = none) {N : Tmp} (_hd : o.dst = some N) {n : Nat} {inner : List Value}
    (hrun : (execOp a.eval o).run P W = .ok (.value (.slice (some ⟨W.heap.size, 0, none⟩) n n)) (W.alloc (.cells inner.toArray e)))
    (h : ∀ g w1, w1.heap[g]? = some (.cells inner.toArray e (0, 0)) → g = W.heap.size → Below W.heap.size W w1 → wpList P ops Q rest (a.put o.dst (.slice (some ⟨g, 0, none⟩) n n)) w1) : wpList P ops Q (o :: rest) a W :=
  Kd.event_run hgd hrun (h _ _ (heap_alloc_new W _) rfl (below_alloc (Below.refl _ _) _))
end
theorem R_past {α : Type} {d : Kd α} {e : Nat} {w w1 : World} {base : Nat} {ok : Nat → Prop} {v : Value} {xs : List α} (h : d.R e w base ok v xs) (hm : ∀ k, base ≤ k → k < w.heap.size → w1.heap[k]? = w.heap[k]?) : d.R e w1 base ok v xs :=
  Kd.R_mono (Kd.R_move (Kd.R_bound h) (fun k hk => hm k hk.2.1 hk.2.2.1)) (fun _ hk => hk.1)
theorem bnd_list {k : Nat} {l : List S26} (a b c : Int) (d : Bool) (hl : l.length ≤ 1000) (h : ∀ y ∈ l, ∀ k, bnd k y) : bnd k ⟨a, [], b, c, d, l⟩ := by
  cases k with
  | zero => trivial
  | succ k => exact ⟨by simp, by show l.length * 80 ≤ _; omega, fun y hy => h y hy k⟩
set_option maxHeartbeats 8000000 in
set_option maxRecDepth 100000 in
theorem writes_wrong (x : S26) (A1 : Option Addr) (c1 : Nat) (A5 : Option Addr) (c5 : Nat) (w : World) (h1 : k54.C w A1 x.f1.length x.f1) (h2 : x.f1.length ≤ c1) (h3 : k26.C w A5 x.f5.length x.f5) (h4 : x.f5.length ≤ c5) (hbd : ∀ k, bnd k x) (n : Int) (hr : ¬ rightB 1000 x = true) : Calls Try.prog 4 #[.agg #[.int .i64 x.f0, .slice A1 x.f1.length c1, .int .i64 x.f2, .int .i64 x.f3, .bool x.f4, .slice A5 x.f5.length c5], .int .i64 n] w fun e w' => e = .returned (.bool true) ∧ Below w.heap.size w w' := by
  have hu26 := Try.underlying26; have hu38 := Try.underlying38; have HR1 := Tk.mk h1; have HC1 := Tk.mk h2; have HR5 := Tk.mk h3; have HC5 := Tk.mk h4; have HBD := Tk.mk hbd; obtain ⟨kc, hkc⟩ := check_ev x (hbd 1000); have HKC := Tk.mk hkc; clear h1 h2 h3 h4 hkc hbd
  have HRI := Tk.mk (show (if rightB 1000 x = true then (0 : Int) else 91) = 91 from if_neg hr)
  clear hr
  go_enter Try.func4, Try.ntmps4
  go_wp2_with (first | ((with_reducible refine gate_dst (N := 2) rfl ?_); refine box_event ?hg (N := 2) ?hd (cs := #[.int .i64 x.f0, .slice A1 x.f1.length c1, .int .i64 x.f2, .int .i64 x.f3, .bool x.f4, .slice A5 x.f5.length c5]) (t := 26) ?hr ?_; (case hd => rfl); (case hg => rfl); (case hr => first | (go_simp; done) | (go_simp; rfl)); intro gx hgx_ w1 hbox hb; have HG_gx := Aside0.mk hgx_; clear hgx_; have HBX := Tk.mk hb; have BKX := Tk.mk hbox; clear hb hbox; have hx0 : w1.cell? ⟨gx, 0, none⟩ = some (.int .i64 x.f0) := (blk_cell BKX.out 0).trans rfl; have hx1 : w1.cell? ⟨gx, 1, none⟩ = some (.slice A1 x.f1.length c1) := (blk_cell BKX.out 1).trans rfl; have hx2 : w1.cell? ⟨gx, 2, none⟩ = some (.int .i64 x.f2) := (blk_cell BKX.out 2).trans rfl; have hx3 : w1.cell? ⟨gx, 3, none⟩ = some (.int .i64 x.f3) := (blk_cell BKX.out 3).trans rfl; have hx4 : w1.cell? ⟨gx, 4, none⟩ = some (.bool x.f4) := (blk_cell BKX.out 4).trans rfl; have hx5 : w1.cell? ⟨gx, 5, none⟩ = some (.slice A5 x.f5.length c5) := (blk_cell BKX.out 5).trans rfl) | (go_at_call 12; refine (caliperref09_Check.calls kc x.f0 A1 c1 x.f1 x.f2 x.f3 x.f4 A5 c5 x.f5 _ w1 (Kd.C_below HR1.out HBX.out) HC1.out (Kd.C_below HR5.out HBX.out) HC5.out HKC.out).mono ?_; rintro e w2 ⟨rfl, hb2⟩; rw [HRI.out]; have HB2 := Tk.mk (below_then HBX.out HBX.out.size hb2); clear hb2 hx0 hx1 hx2 hx3 hx4 hx5) | (go_at_call 13; refine (heads10_calls w2).mono ?_; rintro e w9 ⟨rfl, hb9⟩; have HB9 := Tk.mk (below_then HB2.out HB2.out.size hb9); clear hb9))
  go_ret
  exact ⟨rfl, HB9.out⟩
set_option maxHeartbeats 8000000 in
set_option maxRecDepth 100000 in
theorem writes_out (x : S26) (A1 : Option Addr) (c1 : Nat) (A5 : Option Addr) (c5 : Nat) (w : World) (h1 : k54.C w A1 x.f1.length x.f1) (h2 : x.f1.length ≤ c1) (h3 : k26.C w A5 x.f5.length x.f5) (h4 : x.f5.length ≤ c5) (hbd : ∀ k, bnd k x) (n : Int) (hr : rightB 1000 x = true) (hn : n < 2 ∨ 12 < n) : Calls Try.prog 4 #[.agg #[.int .i64 x.f0, .slice A1 x.f1.length c1, .int .i64 x.f2, .int .i64 x.f3, .bool x.f4, .slice A5 x.f5.length c5], .int .i64 n] w fun e w' => e = .returned (.bool true) ∧ Below w.heap.size w w' := by
  have hu26 := Try.underlying26; have hu38 := Try.underlying38; have HR1 := Tk.mk h1; have HC1 := Tk.mk h2; have HR5 := Tk.mk h3; have HC5 := Tk.mk h4; have HBD := Tk.mk hbd; obtain ⟨kc, hkc⟩ := check_ev x (hbd 1000); have HKC := Tk.mk hkc; clear h1 h2 h3 h4 hkc hbd
  have HRI := Tk.mk (show (if rightB 1000 x = true then (0 : Int) else 91) = 0 from if_pos hr)
  clear hr
  rcases hn with hn | hn
  · go_enter Try.func4, Try.ntmps4
    go_wp2_with (first | ((with_reducible refine gate_dst (N := 2) rfl ?_); refine box_event ?hg (N := 2) ?hd (cs := #[.int .i64 x.f0, .slice A1 x.f1.length c1, .int .i64 x.f2, .int .i64 x.f3, .bool x.f4, .slice A5 x.f5.length c5]) (t := 26) ?hr ?_; (case hd => rfl); (case hg => rfl); (case hr => first | (go_simp; done) | (go_simp; rfl)); intro gx hgx_ w1 hbox hb; have HG_gx := Aside0.mk hgx_; clear hgx_; have HBX := Tk.mk hb; have BKX := Tk.mk hbox; clear hb hbox; have hx0 : w1.cell? ⟨gx, 0, none⟩ = some (.int .i64 x.f0) := (blk_cell BKX.out 0).trans rfl; have hx1 : w1.cell? ⟨gx, 1, none⟩ = some (.slice A1 x.f1.length c1) := (blk_cell BKX.out 1).trans rfl; have hx2 : w1.cell? ⟨gx, 2, none⟩ = some (.int .i64 x.f2) := (blk_cell BKX.out 2).trans rfl; have hx3 : w1.cell? ⟨gx, 3, none⟩ = some (.int .i64 x.f3) := (blk_cell BKX.out 3).trans rfl; have hx4 : w1.cell? ⟨gx, 4, none⟩ = some (.bool x.f4) := (blk_cell BKX.out 4).trans rfl; have hx5 : w1.cell? ⟨gx, 5, none⟩ = some (.slice A5 x.f5.length c5) := (blk_cell BKX.out 5).trans rfl) | (go_at_call 12; refine (caliperref09_Check.calls kc x.f0 A1 c1 x.f1 x.f2 x.f3 x.f4 A5 c5 x.f5 _ w1 (Kd.C_below HR1.out HBX.out) HC1.out (Kd.C_below HR5.out HBX.out) HC5.out HKC.out).mono ?_; rintro e w2 ⟨rfl, hb2⟩; rw [HRI.out]; have HB2 := Tk.mk (below_then HBX.out HBX.out.size hb2); clear hb2 hx0 hx1 hx2 hx3 hx4 hx5) | (go_at_call 13; refine (heads10_calls w2).mono ?_; rintro e w9 ⟨rfl, hb9⟩; have HB9 := Tk.mk (below_then HB2.out HB2.out.size hb9); clear hb9))
    go_ret
    exact ⟨rfl, HB9.out⟩
  · have hn2 : ¬ n < 2 := by omega
    go_enter Try.func4, Try.ntmps4
    go_wp2_with (first | ((with_reducible refine gate_dst (N := 2) rfl ?_); refine box_event ?hg (N := 2) ?hd (cs := #[.int .i64 x.f0, .slice A1 x.f1.length c1, .int .i64 x.f2, .int .i64 x.f3, .bool x.f4, .slice A5 x.f5.length c5]) (t := 26) ?hr ?_; (case hd => rfl); (case hg => rfl); (case hr => first | (go_simp; done) | (go_simp; rfl)); intro gx hgx_ w1 hbox hb; have HG_gx := Aside0.mk hgx_; clear hgx_; have HBX := Tk.mk hb; have BKX := Tk.mk hbox; clear hb hbox; have hx0 : w1.cell? ⟨gx, 0, none⟩ = some (.int .i64 x.f0) := (blk_cell BKX.out 0).trans rfl; have hx1 : w1.cell? ⟨gx, 1, none⟩ = some (.slice A1 x.f1.length c1) := (blk_cell BKX.out 1).trans rfl; have hx2 : w1.cell? ⟨gx, 2, none⟩ = some (.int .i64 x.f2) := (blk_cell BKX.out 2).trans rfl; have hx3 : w1.cell? ⟨gx, 3, none⟩ = some (.int .i64 x.f3) := (blk_cell BKX.out 3).trans rfl; have hx4 : w1.cell? ⟨gx, 4, none⟩ = some (.bool x.f4) := (blk_cell BKX.out 4).trans rfl; have hx5 : w1.cell? ⟨gx, 5, none⟩ = some (.slice A5 x.f5.length c5) := (blk_cell BKX.out 5).trans rfl) | (go_at_call 12; refine (caliperref09_Check.calls kc x.f0 A1 c1 x.f1 x.f2 x.f3 x.f4 A5 c5 x.f5 _ w1 (Kd.C_below HR1.out HBX.out) HC1.out (Kd.C_below HR5.out HBX.out) HC5.out HKC.out).mono ?_; rintro e w2 ⟨rfl, hb2⟩; rw [HRI.out]; have HB2 := Tk.mk (below_then HBX.out HBX.out.size hb2); clear hb2 hx0 hx1 hx2 hx3 hx4 hx5) | (go_at_call 13; refine (heads10_calls w2).mono ?_; rintro e w9 ⟨rfl, hb9⟩; have HB9 := Tk.mk (below_then HB2.out HB2.out.size hb9); clear hb9))
    go_ret
    exact ⟨rfl, HB9.out⟩
set_option maxHeartbeats 8000000 in
set_option maxRecDepth 100000 in
theorem writes_deep (x : S26) (A1 : Option Addr) (c1 : Nat) (A5 : Option Addr) (c5 : Nat) (w : World) (h1 : k54.C w A1 x.f1.length x.f1) (h2 : x.f1.length ≤ c1) (h3 : k26.C w A5 x.f5.length x.f5) (h4 : x.f5.length ≤ c5) (hbd : ∀ k, bnd k x) (n : Int) (hr : rightB 1000 x = true) (hn : ¬ n < 2) (hn2 : ¬ 12 < n) (hl : ¬ levN 1000 x ≤ 900) : Calls Try.prog 4 #[.agg #[.int .i64 x.f0, .slice A1 x.f1.length c1, .int .i64 x.f2, .int .i64 x.f3, .bool x.f4, .slice A5 x.f5.length c5], .int .i64 n] w fun e w' => e = .returned (.bool true) ∧ Below w.heap.size w w' := by
  obtain ⟨kl, hkl⟩ := (lev_ev 1000 x (Nat.le_refl _) hr (hbd 1000)).rounds
  have hu26 := Try.underlying26; have hu38 := Try.underlying38; have HR1 := Tk.mk h1; have HC1 := Tk.mk h2; have HR5 := Tk.mk h3; have HC5 := Tk.mk h4; have HBD := Tk.mk hbd; obtain ⟨kc, hkc⟩ := check_ev x (hbd 1000); have HKC := Tk.mk hkc; clear h1 h2 h3 h4 hkc hbd
  have HRI := Tk.mk (show (if rightB 1000 x = true then (0 : Int) else 91) = 0 from if_pos hr)
  obtain ⟨lv, hlv⟩ : ∃ lv : Int, lv = (levN 1000 x : Int) := ⟨_, rfl⟩
  have h900 : 900 < lv := by omega
  rw [← hlv] at hkl
  have HKL := Tk.mk hkl
  clear hr hl hlv hkl
  go_enter Try.func4, Try.ntmps4
  go_wp2_with (first | ((with_reducible refine gate_dst (N := 2) rfl ?_); refine box_event ?hg (N := 2) ?hd (cs := #[.int .i64 x.f0, .slice A1 x.f1.length c1, .int .i64 x.f2, .int .i64 x.f3, .bool x.f4, .slice A5 x.f5.length c5]) (t := 26) ?hr ?_; (case hd => rfl); (case hg => rfl); (case hr => first | (go_simp; done) | (go_simp; rfl)); intro gx hgx_ w1 hbox hb; have HG_gx := Aside0.mk hgx_; clear hgx_; have HBX := Tk.mk hb; have BKX := Tk.mk hbox; clear hb hbox; have hx0 : w1.cell? ⟨gx, 0, none⟩ = some (.int .i64 x.f0) := (blk_cell BKX.out 0).trans rfl; have hx1 : w1.cell? ⟨gx, 1, none⟩ = some (.slice A1 x.f1.length c1) := (blk_cell BKX.out 1).trans rfl; have hx2 : w1.cell? ⟨gx, 2, none⟩ = some (.int .i64 x.f2) := (blk_cell BKX.out 2).trans rfl; have hx3 : w1.cell? ⟨gx, 3, none⟩ = some (.int .i64 x.f3) := (blk_cell BKX.out 3).trans rfl; have hx4 : w1.cell? ⟨gx, 4, none⟩ = some (.bool x.f4) := (blk_cell BKX.out 4).trans rfl; have hx5 : w1.cell? ⟨gx, 5, none⟩ = some (.slice A5 x.f5.length c5) := (blk_cell BKX.out 5).trans rfl) | (go_at_call 12; refine (caliperref09_Check.calls kc x.f0 A1 c1 x.f1 x.f2 x.f3 x.f4 A5 c5 x.f5 _ w1 (Kd.C_below HR1.out HBX.out) HC1.out (Kd.C_below HR5.out HBX.out) HC5.out HKC.out).mono ?_; rintro e w2 ⟨rfl, hb2⟩; rw [HRI.out]; have BKX := Tk.mk (blk_below BKX.out hb2); have HB2 := Tk.mk (below_then HBX.out HBX.out.size hb2); clear hb2 hx0 hx1 hx2 hx3 hx4 hx5; have hx0 : w2.cell? ⟨gx, 0, none⟩ = some (.int .i64 x.f0) := (blk_cell BKX.out 0).trans rfl; have hx1 : w2.cell? ⟨gx, 1, none⟩ = some (.slice A1 x.f1.length c1) := (blk_cell BKX.out 1).trans rfl; have hx2 : w2.cell? ⟨gx, 2, none⟩ = some (.int .i64 x.f2) := (blk_cell BKX.out 2).trans rfl; have hx3 : w2.cell? ⟨gx, 3, none⟩ = some (.int .i64 x.f3) := (blk_cell BKX.out 3).trans rfl; have hx4 : w2.cell? ⟨gx, 4, none⟩ = some (.bool x.f4) := (blk_cell BKX.out 4).trans rfl; have hx5 : w2.cell? ⟨gx, 5, none⟩ = some (.slice A5 x.f5.length c5) := (blk_cell BKX.out 5).trans rfl) | (go_at_call 15; refine (caliperref09_Levels.calls kl x.f0 A1 c1 x.f1 x.f2 x.f3 x.f4 A5 c5 x.f5 lv w2 (Kd.C_below HR1.out HB2.out) HC1.out (Kd.C_below HR5.out HB2.out) HC5.out HKL.out).mono ?_; rintro e w3 ⟨rfl, hb3⟩; have BKX := Tk.mk (blk_below BKX.out hb3); have HB3 := Tk.mk (below_then HB2.out HB2.out.size hb3); clear hb3 hx0 hx1 hx2 hx3 hx4 hx5; have hx0 : w3.cell? ⟨gx, 0, none⟩ = some (.int .i64 x.f0) := (blk_cell BKX.out 0).trans rfl; have hx1 : w3.cell? ⟨gx, 1, none⟩ = some (.slice A1 x.f1.length c1) := (blk_cell BKX.out 1).trans rfl; have hx2 : w3.cell? ⟨gx, 2, none⟩ = some (.int .i64 x.f2) := (blk_cell BKX.out 2).trans rfl; have hx3 : w3.cell? ⟨gx, 3, none⟩ = some (.int .i64 x.f3) := (blk_cell BKX.out 3).trans rfl; have hx4 : w3.cell? ⟨gx, 4, none⟩ = some (.bool x.f4) := (blk_cell BKX.out 4).trans rfl; have hx5 : w3.cell? ⟨gx, 5, none⟩ = some (.slice A5 x.f5.length c5) := (blk_cell BKX.out 5).trans rfl) | (go_at_call 13; refine (heads10_calls w3).mono ?_; rintro e w9 ⟨rfl, hb9⟩; have HB9 := Tk.mk (below_then HB3.out HB3.out.size hb9); clear hb9))
  go_ret
  exact ⟨rfl, HB9.out⟩
/-- What Compile answers, read. -/
theorem comp_read (t : S26) (A5 : Option Addr) (c5 : Nat) (w : World) (h3 : k26.C w A5 t.f5.length t.f5) (h4 : t.f5.length ≤ c5) (hb : ∀ k, bnd k t) (hf : t.f1 = []) (L : List S38) (E : Int) (hL : compL t 65536 = L) (hE : compE t 65536 = E) :
    Calls Try.prog 10 #[.agg #[.int .i64 t.f0, .slice none 0 0, .int .i64 t.f2, .int .i64 t.f3, .bool t.f4, .slice A5 t.f5.length c5], .int .i64 65536] w fun e w' => ∃ A c, e = .returned (.tuple #[.slice A L.length c, .int .i64 E]) ∧ k38.R 38 w' w.heap.size (fun _ => True) (.slice A L.length c) L ∧ Below w.heap.size w w' := by
  have h := compile_calls t none 0 A5 c5 w (by rw [hf]; exact Kd.C_nil _ _) (by rw [hf]; exact Nat.le_refl _) h3 h4 (hb 1000) 65536
  rw [hf] at h
  refine h.mono ?_
  rintro e w' ⟨v, rfl, hR, hw⟩
  rw [hL] at hR
  rw [hE]
  obtain ⟨A, c, rfl⟩ := Kd.R_slice hR
  exact ⟨A, c, rfl, hR, hw⟩
theorem comp_row (l : List S26) (A5 : Option Addr) (c5 m : Nat) (hm : l.length = m) (w : World) (h3 : k26.C w A5 m l) (h4 : m ≤ c5) (hb : ∀ k, bnd k (rowN l)) (L : List S38) (E : Int) (hL : compL (rowN l) 65536 = L) (hE : compE (rowN l) 65536 = E) :
    Calls Try.prog 10 #[.agg #[.int .i64 3, .slice none 0 0, .int .i64 0, .int .i64 0, .bool false, .slice A5 m c5], .int .i64 65536] w fun e w' => ∃ A c, e = .returned (.tuple #[.slice A L.length c, .int .i64 E]) ∧ k38.R 38 w' w.heap.size (fun _ => True) (.slice A L.length c) L ∧ Below w.heap.size w w' := by
  subst hm
  exact comp_read (rowN l) A5 c5 w h3 h4 hb rfl L E hL hE
theorem comp_rep (x : S26) (a b : Int) (d : Bool) (g c5 : Nat) (w : World) (h3 : k26.C w (some ⟨g, 0, none⟩) 1 [x]) (h4 : 1 ≤ c5) (hb : ∀ k, bnd k ⟨5, [], a, b, d, [x]⟩) (L : List S38) (E : Int) (hL : compL ⟨5, [], a, b, d, [x]⟩ 65536 = L) (hE : compE ⟨5, [], a, b, d, [x]⟩ 65536 = E) :
    Calls Try.prog 10 #[.agg #[.int .i64 5, .slice none 0 0, .int .i64 a, .int .i64 b, .bool d, .slice (some ⟨g, 0, none⟩) 1 c5], .int .i64 65536] w fun e w' => ∃ A c, e = .returned (.tuple #[.slice A L.length c, .int .i64 E]) ∧ k38.R 38 w' w.heap.size (fun _ => True) (.slice A L.length c) L ∧ Below w.heap.size w w' :=
  comp_read ⟨5, [], a, b, d, [x]⟩ (some ⟨g, 0, none⟩) c5 w h3 h4 hb rfl L E hL hE
set_option maxHeartbeats 16000000 in
set_option maxRecDepth 100000 in
theorem writes_good (x : S26) (A1 : Option Addr) (c1 : Nat) (A5 : Option Addr) (c5 : Nat) (w : World) (h1 : k54.C w A1 x.f1.length x.f1) (h2 : x.f1.length ≤ c1) (h3 : k26.C w A5 x.f5.length x.f5) (h4 : x.f5.length ≤ c5) (hbd : ∀ k, bnd k x) (n : Nat) (hr : rightB 1000 x = true) (hn : 2 ≤ n) (hn2 : n ≤ 12) (hl : levN 1000 x ≤ 900) : Calls Try.prog 4 #[.agg #[.int .i64 x.f0, .slice A1 x.f1.length c1, .int .i64 x.f2, .int .i64 x.f3, .bool x.f4, .slice A5 x.f5.length c5], .int .i64 (n : Int)] w fun e w' => e = .returned (.bool true) ∧ Below w.heap.size w w' := by
  obtain ⟨kl, hkl⟩ := (lev_ev 1000 x (Nat.le_refl _) hr (hbd 1000)).rounds
  have h8 := right_lev 1000 998 x hr (by omega)
  have h9 := right_lev 1000 999 x hr (by omega)
  obtain ⟨L1, hL1⟩ : ∃ L, L = compL (rowN (List.replicate n x)) 65536 := ⟨_, rfl⟩
  obtain ⟨E1, hE1⟩ : ∃ E, E = compE (rowN (List.replicate n x)) 65536 := ⟨_, rfl⟩
  obtain ⟨L2, hL2⟩ : ∃ L, L = compL (rowN (List.replicate n x ++ [starN x])) 65536 := ⟨_, rfl⟩
  obtain ⟨E2, hE2⟩ : ∃ E, E = compE (rowN (List.replicate n x ++ [starN x])) 65536 := ⟨_, rfl⟩
  have hc1 := comp_same (right_repN h8 h9 hn hn2) (right_rowN h8 h9 hn hn2) (build_repN h8 h9 hn hn2) 65536
  have hc2 := comp_same (right_repS h8 h9 hn hn2) (right_rowS h8 h9 hn hn2) (build_repS h8 h9 hn hn2) 65536
  rw [← hL1, ← hE1] at hc1
  rw [← hL2, ← hE2] at hc2
  have hs1 : okL L1 ∧ L1.length ≤ 8796093022208 := (by rw [hL1]; have := ok_comp (rowN (List.replicate n x)) 65536; exact ⟨this.1, by omega⟩)
  have hs2 : okL L2 ∧ L2.length ≤ 8796093022208 := (by rw [hL2]; have := ok_comp (rowN (List.replicate n x ++ [starN x])) 65536; exact ⟨this.1, by omega⟩)
  have HE := Tk.mk (And.intro hL1.symm (And.intro hE1.symm (And.intro hL2.symm hE2.symm)))
  have HE1 := Tk.mk hc1
  have HE2 := Tk.mk hc2
  have HS1 := Tk.mk hs1
  have HS2 := Tk.mk hs2
  have HX := Tk.mk hbd
  have hu26 := Try.underlying26; have hu38 := Try.underlying38; have HR1 := Tk.mk h1; have HC1 := Tk.mk h2; have HR5 := Tk.mk h3; have HC5 := Tk.mk h4; have HBD := Tk.mk hbd; obtain ⟨kc, hkc⟩ := check_ev x (hbd 1000); have HKC := Tk.mk hkc; clear h1 h2 h3 h4 hkc hbd
  have HRI := Tk.mk (show (if rightB 1000 x = true then (0 : Int) else 91) = 0 from if_pos hr)
  obtain ⟨lv, hlv⟩ : ∃ lv : Int, lv = (levN 1000 x : Int) := ⟨_, rfl⟩
  have h900 : ¬ 900 < lv := by omega
  rw [← hlv] at hkl
  have HKL := Tk.mk hkl
  have hq1 : ¬ (n : Int) < 2 := by omega
  have hq2 : ¬ 12 < (n : Int) := by omega
  have HN2 := Tk.mk hn
  have HN12 := Tk.mk hn2
  clear hr hl hlv hkl h8 h9 hL1 hE1 hL2 hE2 hc1 hc2 hs1 hs2 hn
  go_enter Try.func4, Try.ntmps4
  go_wp2_with (first | ((with_reducible refine gate_dst (N := 2) rfl ?_); refine box_event ?hg (N := 2) ?hd (cs := #[.int .i64 x.f0, .slice A1 x.f1.length c1, .int .i64 x.f2, .int .i64 x.f3, .bool x.f4, .slice A5 x.f5.length c5]) (t := 26) ?hr ?_; (case hd => rfl); (case hg => rfl); (case hr => first | (go_simp; done) | (go_simp; rfl)); intro gx hgx_ w1 hbox hb; have HG_gx := Aside0.mk hgx_; clear hgx_; have HBX := Tk.mk hb; have BKX := Tk.mk hbox; clear hb hbox; have hx0 : w1.cell? ⟨gx, 0, none⟩ = some (.int .i64 x.f0) := (blk_cell BKX.out 0).trans rfl; have hx1 : w1.cell? ⟨gx, 1, none⟩ = some (.slice A1 x.f1.length c1) := (blk_cell BKX.out 1).trans rfl; have hx2 : w1.cell? ⟨gx, 2, none⟩ = some (.int .i64 x.f2) := (blk_cell BKX.out 2).trans rfl; have hx3 : w1.cell? ⟨gx, 3, none⟩ = some (.int .i64 x.f3) := (blk_cell BKX.out 3).trans rfl; have hx4 : w1.cell? ⟨gx, 4, none⟩ = some (.bool x.f4) := (blk_cell BKX.out 4).trans rfl; have hx5 : w1.cell? ⟨gx, 5, none⟩ = some (.slice A5 x.f5.length c5) := (blk_cell BKX.out 5).trans rfl) | (go_at_call 12; refine (caliperref09_Check.calls kc x.f0 A1 c1 x.f1 x.f2 x.f3 x.f4 A5 c5 x.f5 _ w1 (Kd.C_below HR1.out HBX.out) HC1.out (Kd.C_below HR5.out HBX.out) HC5.out HKC.out).mono ?_; rintro e w2 ⟨rfl, hb2⟩; rw [HRI.out]; have BKX := Tk.mk (blk_below BKX.out hb2); have HB2 := Tk.mk (below_then HBX.out HBX.out.size hb2); clear hb2 hx0 hx1 hx2 hx3 hx4 hx5; have hx0 : w2.cell? ⟨gx, 0, none⟩ = some (.int .i64 x.f0) := (blk_cell BKX.out 0).trans rfl; have hx1 : w2.cell? ⟨gx, 1, none⟩ = some (.slice A1 x.f1.length c1) := (blk_cell BKX.out 1).trans rfl; have hx2 : w2.cell? ⟨gx, 2, none⟩ = some (.int .i64 x.f2) := (blk_cell BKX.out 2).trans rfl; have hx3 : w2.cell? ⟨gx, 3, none⟩ = some (.int .i64 x.f3) := (blk_cell BKX.out 3).trans rfl; have hx4 : w2.cell? ⟨gx, 4, none⟩ = some (.bool x.f4) := (blk_cell BKX.out 4).trans rfl; have hx5 : w2.cell? ⟨gx, 5, none⟩ = some (.slice A5 x.f5.length c5) := (blk_cell BKX.out 5).trans rfl) | (go_at_call 15; refine (caliperref09_Levels.calls kl x.f0 A1 c1 x.f1 x.f2 x.f3 x.f4 A5 c5 x.f5 lv w2 (Kd.C_below HR1.out HB2.out) HC1.out (Kd.C_below HR5.out HB2.out) HC5.out HKL.out).mono ?_; rintro e w3 ⟨rfl, hb3⟩; have BKX := Tk.mk (blk_below BKX.out hb3); have HB3 := Tk.mk (below_then HB2.out HB2.out.size hb3); clear hb3 hx0 hx1 hx2 hx3 hx4 hx5; have hx0 : w3.cell? ⟨gx, 0, none⟩ = some (.int .i64 x.f0) := (blk_cell BKX.out 0).trans rfl; have hx1 : w3.cell? ⟨gx, 1, none⟩ = some (.slice A1 x.f1.length c1) := (blk_cell BKX.out 1).trans rfl; have hx2 : w3.cell? ⟨gx, 2, none⟩ = some (.int .i64 x.f2) := (blk_cell BKX.out 2).trans rfl; have hx3 : w3.cell? ⟨gx, 3, none⟩ = some (.int .i64 x.f3) := (blk_cell BKX.out 3).trans rfl; have hx4 : w3.cell? ⟨gx, 4, none⟩ = some (.bool x.f4) := (blk_cell BKX.out 4).trans rfl; have hx5 : w3.cell? ⟨gx, 5, none⟩ = some (.slice A5 x.f5.length c5) := (blk_cell BKX.out 5).trans rfl) | (go_at_call 13; refine (heads10_calls w3).mono ?_; rintro e w9 ⟨rfl, hb9⟩; have HB9 := Tk.mk (below_then HB3.out HB3.out.size hb9); clear hb9) | ((with_reducible refine gate_dst (N := 5) rfl ?_); refine box_event ?hg (N := 5) ?hd (cs := #[.int .i64 0, .slice none 0 0, .int .i64 0, .int .i64 0, .bool false, .slice none 0 0]) (t := 26) ?hr ?_; (case hd => rfl); (case hg => rfl); (case hr => first | (go_simp; done) | (go_simp; rfl)); intro gr hgx_ w4 hbox hb; have HG_gr := Aside0.mk hgx_; clear hgx_; have HBY := Tk.mk hb; have HYB := Tk.mk hbox; have GEY : Tk (w3.heap.size ≤ gr) := ⟨by have := HG_gr.out; omega⟩; have hyf0 := blk_frozen hbox 0; have hyf1 := blk_frozen hbox 1; have hyf2 := blk_frozen hbox 2; have hyf3 := blk_frozen hbox 3; have hyf4 := blk_frozen hbox 4; have hyf5 := blk_frozen hbox 5; have hy0 : w4.cell? ⟨gr, 0, none⟩ = some (.int .i64 0) := (blk_cell hbox 0).trans rfl; have hy1 : w4.cell? ⟨gr, 1, none⟩ = some (.slice none 0 0) := (blk_cell hbox 1).trans rfl; have hy2 : w4.cell? ⟨gr, 2, none⟩ = some (.int .i64 0) := (blk_cell hbox 2).trans rfl; have hy3 : w4.cell? ⟨gr, 3, none⟩ = some (.int .i64 0) := (blk_cell hbox 3).trans rfl; have hy4 : w4.cell? ⟨gr, 4, none⟩ = some (.bool false) := (blk_cell hbox 4).trans rfl; have hy5 : w4.cell? ⟨gr, 5, none⟩ = some (.slice none 0 0) := (blk_cell hbox 5).trans rfl; clear hb hbox))
  refine name_code (F := fun W => W.heap[gr]? = some (.cells #[.int .i64 3, .slice none 0 0, .int .i64 0, .int .i64 0, .bool false, .slice none 0 0] 26 (0, 0)) ∧ Below w3.heap.size w3 W) ?gf ?_
  case gf => exact ⟨(blk_set (blk_set (blk_set (blk_set (blk_set (blk_set HYB.out 0 (.int .i64 3)) 1 (.slice none 0 0)) 2 (.int .i64 0)) 3 (.int .i64 0)) 4 (.bool false)) 5 (.slice none 0 0)).trans rfl, (by repeat (first | (with_reducible exact HBY.out) | (with_reducible refine below_set ?_ GEY.out)))⟩
  clear HYB hy0 hy1 hy2 hy3 hy4 hy5 hyf0 hyf1 hyf2 hyf3 hyf4 hyf5 hx0 hx1 hx2 hx3 hx4 hx5
  rintro w5 ⟨hbk, hbl⟩
  have BKR := Tk.mk hbk
  have HGG := Tk.mk (show gx ≠ gr from by have := blk_lt BKX.out; have := HG_gr.out; omega)
  have BKX := Tk.mk (blk_below BKX.out hbl)
  have HB5 := Tk.mk (below_then HB3.out HB3.out.size hbl)
  clear hbk hbl HBY
  have HGR := Tk.mk (blk_lt BKR.out)
  have HGX := Tk.mk (blk_lt BKX.out)
  have HGE := Tk.mk (show w.heap.size ≤ gr from by have := GEY.out; have := HB3.out.size; omega)
  go_loopg [6] n (fun kq v6 w' => ∃ (i : Nat) (v : Value), v6 = .int .i64 i ∧ Aside0 (i ≤ n ∧ kq = n - i) ∧ Aside0 (w'.heap[gr]? = some (.cells #[.int .i64 3, .slice none 0 0, .int .i64 0, .int .i64 0, .bool false, v] 26 (0, 0))) ∧ Aside0 (OwnRow (k26.K w) 26 6 w' w5.heap.size v (List.replicate i x)) ∧ Aside0 (Below w.heap.size w w') ∧ Aside0 (w'.heap[gx]? = some (.cells #[.int .i64 x.f0, .slice A1 x.f1.length c1, .int .i64 x.f2, .int .i64 x.f3, .bool x.f4, .slice A5 x.f5.length c5] 26 (0, 0))) ∧ Aside0 (w5.heap.size ≤ w'.heap.size))
  case atStart => exact ⟨0, _, rfl, ⟨by omega, by omega⟩, ⟨BKR.out⟩, ⟨OwnRow.none_ _ _ _ _ _⟩, ⟨HB5.out⟩, ⟨BKX.out⟩, ⟨Nat.le_refl _⟩⟩
  case round =>
    clear BKR BKX
    obtain ⟨i, v, rfl, HI, BKR, HO, HB, BKX, HZ⟩ := hrel
    obtain ⟨A6, c6, rfl, _⟩ := HO.out.slice_
    rw [List.length_replicate] at BKR HO
    have hx0 : wr.cell? ⟨gx, 0, none⟩ = some (.int .i64 x.f0) := (blk_cell BKX.out 0).trans rfl; have hx1 : wr.cell? ⟨gx, 1, none⟩ = some (.slice A1 x.f1.length c1) := (blk_cell BKX.out 1).trans rfl; have hx2 : wr.cell? ⟨gx, 2, none⟩ = some (.int .i64 x.f2) := (blk_cell BKX.out 2).trans rfl; have hx3 : wr.cell? ⟨gx, 3, none⟩ = some (.int .i64 x.f3) := (blk_cell BKX.out 3).trans rfl; have hx4 : wr.cell? ⟨gx, 4, none⟩ = some (.bool x.f4) := (blk_cell BKX.out 4).trans rfl; have hx5 : wr.cell? ⟨gx, 5, none⟩ = some (.slice A5 x.f5.length c5) := (blk_cell BKX.out 5).trans rfl
    by_cases hlt : i < n
    · have HLT := Tk.mk hlt
      have hlx : (i : Int) < (n : Int) := by omega
      have hg0 : wr.cell? ⟨gr, 0, none⟩ = some (.int .i64 3) := (blk_cell BKR.out 0).trans rfl; have hg1 : wr.cell? ⟨gr, 1, none⟩ = some (.slice none 0 0) := (blk_cell BKR.out 1).trans rfl; have hg2 : wr.cell? ⟨gr, 2, none⟩ = some (.int .i64 0) := (blk_cell BKR.out 2).trans rfl; have hg3 : wr.cell? ⟨gr, 3, none⟩ = some (.int .i64 0) := (blk_cell BKR.out 3).trans rfl; have hg4 : wr.cell? ⟨gr, 4, none⟩ = some (.bool false) := (blk_cell BKR.out 4).trans rfl; have hg5 : wr.cell? ⟨gr, 5, none⟩ = some (.slice A6 i c6) := (blk_cell BKR.out 5).trans rfl; have hgf5 : wr.frozen? ⟨gr, 5, none⟩ = false := blk_frozen BKR.out 5
      have lgr := blk_lt BKR.out
      have lgx := blk_lt BKX.out
      go_wp2_with (first | ((with_reducible refine gate_dst (N := 42) rfl ?_); refine OwnRow.append (R := k26.K w) (W := wr) (w0 := wr) w5.heap.size rfl (.tmp 39) (.tmp 41) 24 26 _ 6 80 rfl Try.underlying24 info26 rfl (by decide) (by decide) (.slice A6 i c6) (List.replicate i x) x [.int .i64 x.f0, .slice A1 x.f1.length c1, .int .i64 x.f2, .int .i64 x.f3, .bool x.f4, .slice A5 x.f5.length c5] rfl rfl (k26_mk w x HC1.out HR1.out HC5.out HR5.out) rfl (by simp [Value.oneCell']) HO.out (Below.refl _ _) HZ.out (by rw [List.length_replicate]; omega) ?_; intro v7 w7 ho hbb hg hat; rw [← List.replicate_succ'] at ho; obtain ⟨A7, c7, rfl, _⟩ := ho.slice_; rw [List.length_replicate] at ho ⊢; have HO7 := Tk.mk ho; have HG7 := Tk.mk hg; have BKR7 := Tk.mk (blk_grown BKR.out hg (OwnRow_ne HO.out HGR.out)); have BKX7 := Tk.mk (blk_grown BKX.out hg (OwnRow_ne HO.out HGX.out)); clear ho hbb hg hat; have hw5 : w7.cell? ⟨gr, 5, none⟩ = some (.slice A6 i c6) := (blk_cell BKR7.out 5).trans rfl; have hwf5 : w7.frozen? ⟨gr, 5, none⟩ = false := blk_frozen BKR7.out 5))
      go_roundg (n - (i + 1))
      case measure => have h1 := HI.out; have h2 := HLT.out; omega
      case rel =>
        have hbw : Below w.heap.size w w7 := HB.out.grown HG7.out HB.out.size (fun k hk => by
          obtain ⟨inner, ho, _⟩ := HO.out
          have := own_base ho k hk
          have := HB5.out.size
          omega)
        exact ⟨i + 1, _, by go_num, ⟨HLT.out, rfl⟩, ⟨(blk_set BKR7.out 5 _).trans rfl⟩, ⟨OwnRow_far HO7.out HGR.out _ _⟩, ⟨below_set hbw HGE.out⟩, ⟨blk_far (p := ⟨gr, 5, none⟩) BKX7.out HGG.out _⟩, ⟨by have h1 := HZ.out; have h2 := HG7.out.size; simp [World.setCell]; omega⟩⟩
    · have hin : i = n := by have := HI.out; omega
      rw [hin] at HO BKR ⊢
      clear HI hlt hin
      have hg0 : wr.cell? ⟨gr, 0, none⟩ = some (.int .i64 3) := (blk_cell BKR.out 0).trans rfl; have hg1 : wr.cell? ⟨gr, 1, none⟩ = some (.slice none 0 0) := (blk_cell BKR.out 1).trans rfl; have hg2 : wr.cell? ⟨gr, 2, none⟩ = some (.int .i64 0) := (blk_cell BKR.out 2).trans rfl; have hg3 : wr.cell? ⟨gr, 3, none⟩ = some (.int .i64 0) := (blk_cell BKR.out 3).trans rfl; have hg4 : wr.cell? ⟨gr, 4, none⟩ = some (.bool false) := (blk_cell BKR.out 4).trans rfl; have hg5 : wr.cell? ⟨gr, 5, none⟩ = some (.slice A6 n c6) := (blk_cell BKR.out 5).trans rfl; have hgf5 : wr.frozen? ⟨gr, 5, none⟩ = false := blk_frozen BKR.out 5
      go_wp2_with (first | ((with_reducible refine gate_dst (N := 48) rfl ?_); refine lit_event k26 26 ?hg (N := 48) ?hd (xs := [x]) (inner := [.int .i64 x.f0, .slice A1 x.f1.length c1, .int .i64 x.f2, .int .i64 x.f3, .bool x.f4, .slice A5 x.f5.length c5]) ?hr ?hp (by simp) ?_; (case hd => rfl); (case hg => rfl); (case hr => first | (go_simp; done) | (go_simp; rfl)); (case hp => exact Reps.snoc (Reps.none _ _) (k26_mk wr x HC1.out (Kd.C_below HR1.out HB.out) HC5.out (Kd.C_below HR5.out HB.out)) rfl); intro g8 w8 hC8 hb8; have HC8 := Tk.mk hC8; have HB8 := Tk.mk (below_then HB.out HB.out.size hb8); have BKX := Tk.mk (blk_below BKX.out hb8); have BKR := Tk.mk (blk_below BKR.out hb8); have HO8 := Tk.mk (HO.out.below hb8); have HZ := Tk.mk (Nat.le_trans HZ.out hb8.size); have HS85 := Tk.mk (show w5.heap.size ≤ w8.heap.size from HZ.out); have HS8 := Tk.mk (show ∀ k, (Value.slice A6 n c6).ownBlock = some k → k < w8.heap.size from fun k hk => by obtain ⟨inner, ho, _⟩ := HO.out; have := own_lt ho k hk; have := hb8.size; omega); clear hC8 hb8; clear hx0 hx1 hx2 hx3 hx4 hx5; clear hg0 hg1 hg2 hg3 hg4 hg5 hgf5))
      refine (comp_rep x n n false g8 1 w8 HC8.out (Nat.le_refl _) (fun k => bnd_list _ _ _ _ (by simp) (fun y hy k => by rw [List.mem_singleton.1 hy]; exact HX.out k)) L1 E1 HE1.out.1 HE1.out.2).mono ?_
      rintro e w9 ⟨Aa, ca, rfl, hRa, hb9⟩
      have HRA := Tk.mk hRa
      have HS9 := Tk.mk hb9.size
      have HB9 := Tk.mk (below_then HB8.out HB8.out.size hb9)
      have BKX := Tk.mk (blk_below BKX.out hb9)
      have BKR := Tk.mk (blk_below BKR.out hb9)
      have HO9 := Tk.mk (HO8.out.below hb9)
      have HZ := Tk.mk (Nat.le_trans HZ.out hb9.size)
      clear hRa hb9
      have hg0 : w9.cell? ⟨gr, 0, none⟩ = some (.int .i64 3) := (blk_cell BKR.out 0).trans rfl; have hg1 : w9.cell? ⟨gr, 1, none⟩ = some (.slice none 0 0) := (blk_cell BKR.out 1).trans rfl; have hg2 : w9.cell? ⟨gr, 2, none⟩ = some (.int .i64 0) := (blk_cell BKR.out 2).trans rfl; have hg3 : w9.cell? ⟨gr, 3, none⟩ = some (.int .i64 0) := (blk_cell BKR.out 3).trans rfl; have hg4 : w9.cell? ⟨gr, 4, none⟩ = some (.bool false) := (blk_cell BKR.out 4).trans rfl; have hg5 : w9.cell? ⟨gr, 5, none⟩ = some (.slice A6 n c6) := (blk_cell BKR.out 5).trans rfl; have hgf5 : w9.frozen? ⟨gr, 5, none⟩ = false := blk_frozen BKR.out 5
      go_wp2_with fail
      have HRC := OwnRow_C' HO9.out HB9.out
      rw [List.length_replicate] at HRC
      refine (comp_row (List.replicate n x) A6 c6 n (List.length_replicate ..) w9 HRC.2.2 HRC.2.1 (fun k => bnd_list _ _ _ _ (by rw [List.length_replicate]; omega) (fun y hy k => by rw [List.eq_of_mem_replicate hy]; exact HX.out k)) L1 E1 HE.out.1 HE.out.2.1).mono ?_
      clear HRC
      rintro e w10 ⟨Ab, cb, rfl, hRb, hb10⟩
      have HRB := Tk.mk (Kd.R_lower hRb HS9.out)
      have HRA := Tk.mk (Kd.R_below HRA.out hb10)
      have HB10 := Tk.mk (below_then HB9.out HB9.out.size hb10)
      have BKX := Tk.mk (blk_below BKX.out hb10)
      have BKR := Tk.mk (blk_below BKR.out hb10)
      have HO10 := Tk.mk (HO9.out.below hb10)
      have HS10 := Tk.mk (show w8.heap.size ≤ w10.heap.size from Nat.le_trans HS9.out hb10.size)
      have HZ := Tk.mk (Nat.le_trans HZ.out hb10.size)
      clear hRb hb10
      clear hg0 hg1 hg2 hg3 hg4 hg5 hgf5
      have hg0 : w10.cell? ⟨gr, 0, none⟩ = some (.int .i64 3) := (blk_cell BKR.out 0).trans rfl; have hg1 : w10.cell? ⟨gr, 1, none⟩ = some (.slice none 0 0) := (blk_cell BKR.out 1).trans rfl; have hg2 : w10.cell? ⟨gr, 2, none⟩ = some (.int .i64 0) := (blk_cell BKR.out 2).trans rfl; have hg3 : w10.cell? ⟨gr, 3, none⟩ = some (.int .i64 0) := (blk_cell BKR.out 3).trans rfl; have hg4 : w10.cell? ⟨gr, 4, none⟩ = some (.bool false) := (blk_cell BKR.out 4).trans rfl; have hg5 : w10.cell? ⟨gr, 5, none⟩ = some (.slice A6 n c6) := (blk_cell BKR.out 5).trans rfl; have hgf5 : w10.frozen? ⟨gr, 5, none⟩ = false := blk_frozen BKR.out 5
      have hx0 : w10.cell? ⟨gx, 0, none⟩ = some (.int .i64 x.f0) := (blk_cell BKX.out 0).trans rfl; have hx1 : w10.cell? ⟨gx, 1, none⟩ = some (.slice A1 x.f1.length c1) := (blk_cell BKX.out 1).trans rfl; have hx2 : w10.cell? ⟨gx, 2, none⟩ = some (.int .i64 x.f2) := (blk_cell BKX.out 2).trans rfl; have hx3 : w10.cell? ⟨gx, 3, none⟩ = some (.int .i64 x.f3) := (blk_cell BKX.out 3).trans rfl; have hx4 : w10.cell? ⟨gx, 4, none⟩ = some (.bool x.f4) := (blk_cell BKX.out 4).trans rfl; have hx5 : w10.cell? ⟨gx, 5, none⟩ = some (.slice A5 x.f5.length c5) := (blk_cell BKX.out 5).trans rfl
      have lgr := blk_lt BKR.out
      go_wp2_with (first | ((with_reducible refine gate_dst (N := 61) rfl ?_); refine lit_block 26 ?hg (N := 61) ?hd (n := 1) (inner := [.int .i64 x.f0, .slice A1 x.f1.length c1, .int .i64 x.f2, .int .i64 x.f3, .bool x.f4, .slice A5 x.f5.length c5]) ?hr ?_; (case hd => rfl); (case hg => rfl); (case hr => first | (go_simp; done) | (go_simp; rfl)); intro g11 w11 hbk11 hg11 hb11; have BK11 := Tk.mk hbk11; have HG11 := Tk.mk hg11; have HB11 := Tk.mk (below_then HB10.out HB10.out.size hb11); have HRA := Tk.mk (Kd.R_below HRA.out hb11); have HRB := Tk.mk (Kd.R_below HRB.out hb11); have BKX := Tk.mk (blk_below BKX.out hb11); have BKR := Tk.mk (blk_below BKR.out hb11); have HO11 := Tk.mk (show OwnRow (fun y cs => ∀ W, Below w.heap.size w W → W.heap[g11]? = some (.cells #[.int .i64 x.f0, .slice A1 x.f1.length c1, .int .i64 x.f2, .int .i64 x.f3, .bool x.f4, .slice A5 x.f5.length c5] 26 (0, 0)) → k26.K W y cs) 26 6 w11 w5.heap.size (.slice A6 n c6) (List.replicate n x) from (HO10.out.below hb11).imp_ (fun p cs hk W hW _ => k26.K_below hW hk)); have HS11 := Tk.mk (show w8.heap.size ≤ g11 ∧ g11 < w11.heap.size from ⟨by have := HS10.out; omega, blk_lt hbk11⟩); have HZ11 := Tk.mk (Nat.le_trans HZ.out hb11.size); clear hbk11 hg11 hb11 lgr; clear hx0 hx1 hx2 hx3 hx4 hx5; clear hg0 hg1 hg2 hg3 hg4 hg5 hgf5; have hg0 : w11.cell? ⟨gr, 0, none⟩ = some (.int .i64 3) := (blk_cell BKR.out 0).trans rfl; have hg1 : w11.cell? ⟨gr, 1, none⟩ = some (.slice none 0 0) := (blk_cell BKR.out 1).trans rfl; have hg2 : w11.cell? ⟨gr, 2, none⟩ = some (.int .i64 0) := (blk_cell BKR.out 2).trans rfl; have hg3 : w11.cell? ⟨gr, 3, none⟩ = some (.int .i64 0) := (blk_cell BKR.out 3).trans rfl; have hg4 : w11.cell? ⟨gr, 4, none⟩ = some (.bool false) := (blk_cell BKR.out 4).trans rfl; have hg5 : w11.cell? ⟨gr, 5, none⟩ = some (.slice A6 n c6) := (blk_cell BKR.out 5).trans rfl; have hgf5 : w11.frozen? ⟨gr, 5, none⟩ = false := blk_frozen BKR.out 5; have lgr := blk_lt BKR.out; have lgx := blk_lt BKX.out) | ((with_reducible refine gate_dst (N := 64) rfl ?_); refine OwnRow.append (R := fun y cs => ∀ W, Below w.heap.size w W → W.heap[g11]? = some (.cells #[.int .i64 x.f0, .slice A1 x.f1.length c1, .int .i64 x.f2, .int .i64 x.f3, .bool x.f4, .slice A5 x.f5.length c5] 26 (0, 0)) → k26.K W y cs) (W := w11) (w0 := w11) w5.heap.size rfl (.tmp 59) (.tmp 63) 24 26 _ 6 80 rfl Try.underlying24 info26 rfl (by decide) (by decide) (.slice A6 n c6) (List.replicate n x) (starN x) [.int .i64 5, .slice none 0 0, .int .i64 0, .int .i64 (-1), .bool false, .slice (some ⟨g11, 0, none⟩) 1 1] rfl rfl (fun W hW hbk => k26_mk W (starN x) (Nat.le_refl 0) (Kd.C_nil _ _) (Nat.le_refl 1) (C_block (d := k26) (xs := [x]) (inner := [.int .i64 x.f0, .slice A1 x.f1.length c1, .int .i64 x.f2, .int .i64 x.f3, .bool x.f4, .slice A5 x.f5.length c5]) hbk (Reps.snoc (Reps.none _ _) (k26_mk W x HC1.out (Kd.C_below HR1.out hW) HC5.out (Kd.C_below HR5.out hW)) rfl) (by simp))) rfl (by simp [Value.oneCell']) HO11.out (Below.refl _ _) HZ11.out (by rw [List.length_replicate]; omega) ?_; intro v7 w12 ho hbb hg hat; obtain ⟨A7, c7, rfl, _⟩ := ho.slice_; have hlen : (List.replicate n x ++ [starN x]).length = n + 1 := (by simp); rw [hlen] at ho ⊢; have HO12 := Tk.mk ho; have HG12 := Tk.mk hg; have BKR12 := Tk.mk (blk_grown BKR.out hg (OwnRow_ne HO11.out HGR.out)); have BKX12 := Tk.mk (blk_grown BKX.out hg (OwnRow_ne HO11.out HGX.out)); clear ho hbb hg hat lgr lgx; clear hg0 hg1 hg2 hg3 hg4 hg5 hgf5; have hw5 : w12.cell? ⟨gr, 5, none⟩ = some (.slice A6 n c6) := (blk_cell BKR12.out 5).trans rfl; have hwf5 : w12.frozen? ⟨gr, 5, none⟩ = false := blk_frozen BKR12.out 5) | ((with_reducible refine gate_dst (N := 68) rfl ?_); refine name_at (N := 68) ?gn (fun W => W.heap[gr]? = some (.cells #[.int .i64 3, .slice none 0 0, .int .i64 0, .int .i64 0, .bool false, .slice A7 (n + 1) c7] 26 (0, 0)) ∧ W.heap[gx]? = some (.cells #[.int .i64 x.f0, .slice A1 x.f1.length c1, .int .i64 x.f2, .int .i64 x.f3, .bool x.f4, .slice A5 x.f5.length c5] 26 (0, 0)) ∧ OwnRow (fun y cs => ∀ W, Below w.heap.size w W → W.heap[g11]? = some (.cells #[.int .i64 x.f0, .slice A1 x.f1.length c1, .int .i64 x.f2, .int .i64 x.f3, .bool x.f4, .slice A5 x.f5.length c5] 26 (0, 0)) → k26.K W y cs) 26 6 W w5.heap.size (.slice A7 (n + 1) c7) (List.replicate n x ++ [starN x]) ∧ Below w.heap.size w W ∧ (∀ k, w8.heap.size ≤ k → k < w11.heap.size → W.heap[k]? = w11.heap[k]?)) ?gf ?_; (case gn => rfl); (case gf => refine ⟨(blk_set BKR12.out 5 _).trans rfl, blk_far (p := ⟨gr, 5, none⟩) BKX12.out HGG.out _, OwnRow_far HO12.out HGR.out _ _, below_set (HB11.out.grown HG12.out HB11.out.size (fun k hk => by obtain ⟨inner, ho, _⟩ := HO11.out; have := own_base ho k hk; have := HB5.out.size; omega)) HGE.out, fun k h1 h2 => (Below.heap_setCell w12 ⟨gr, 5, none⟩ _ k (by have h3 := HGR.out; have h4 := HS85.out; show k ≠ gr; omega)).trans (HG12.out.block k h2 (fun e => by have := HS8.out k e.symm; omega))⟩); clear hw5 hwf5; rintro w13 ⟨q1, q2, q3, q4, q5⟩; have BKR := Tk.mk q1; have BKX := Tk.mk q2; have HO13 := Tk.mk q3; have HB13 := Tk.mk q4; have HRA := Tk.mk (R_past HRA.out q5); have HRB := Tk.mk (R_past HRB.out q5); have BK11 := Tk.mk ((q5 g11 HS11.out.1 HS11.out.2).trans BK11.out); clear q1 q2 q3 q4 q5; have hx0 : w13.cell? ⟨gx, 0, none⟩ = some (.int .i64 x.f0) := (blk_cell BKX.out 0).trans rfl; have hx1 : w13.cell? ⟨gx, 1, none⟩ = some (.slice A1 x.f1.length c1) := (blk_cell BKX.out 1).trans rfl; have hx2 : w13.cell? ⟨gx, 2, none⟩ = some (.int .i64 x.f2) := (blk_cell BKX.out 2).trans rfl; have hx3 : w13.cell? ⟨gx, 3, none⟩ = some (.int .i64 x.f3) := (blk_cell BKX.out 3).trans rfl; have hx4 : w13.cell? ⟨gx, 4, none⟩ = some (.bool x.f4) := (blk_cell BKX.out 4).trans rfl; have hx5 : w13.cell? ⟨gx, 5, none⟩ = some (.slice A5 x.f5.length c5) := (blk_cell BKX.out 5).trans rfl) | ((with_reducible refine gate_dst (N := 69) rfl ?_); refine lit_event k26 26 ?hg (N := 69) ?hd (xs := [x]) (inner := [.int .i64 x.f0, .slice A1 x.f1.length c1, .int .i64 x.f2, .int .i64 x.f3, .bool x.f4, .slice A5 x.f5.length c5]) ?hr ?hp (by simp) ?_; (case hd => rfl); (case hg => rfl); (case hr => first | (go_simp; done) | (go_simp; rfl)); (case hp => exact Reps.snoc (Reps.none _ _) (k26_mk w13 x HC1.out (Kd.C_below HR1.out HB13.out) HC5.out (Kd.C_below HR5.out HB13.out)) rfl); intro g14 w14 hC14 hb14; have HC14 := Tk.mk hC14; have HB14 := Tk.mk (below_then HB13.out HB13.out.size hb14); have BKX := Tk.mk (blk_below BKX.out hb14); have BKR := Tk.mk (blk_below BKR.out hb14); have HO14 := Tk.mk (HO13.out.below hb14); have HRA := Tk.mk (Kd.R_below HRA.out hb14); have HRB := Tk.mk (Kd.R_below HRB.out hb14); have BK11 := Tk.mk (blk_below BK11.out hb14); clear hC14 hb14; clear hx0 hx1 hx2 hx3 hx4 hx5))
      refine (comp_rep x n (-1) true g14 1 w14 HC14.out (Nat.le_refl _) (fun k => bnd_list _ _ _ _ (by simp) (fun y hy k => by rw [List.mem_singleton.1 hy]; exact HX.out k)) L2 E2 HE2.out.1 HE2.out.2).mono ?_
      rintro e w15 ⟨Ac, cc, rfl, hRc, hb15⟩
      have HRC := Tk.mk hRc
      have HRA := Tk.mk (Kd.R_below HRA.out hb15)
      have HRB := Tk.mk (Kd.R_below HRB.out hb15)
      have HB15 := Tk.mk (below_then HB14.out HB14.out.size hb15)
      have BKR := Tk.mk (blk_below BKR.out hb15)
      have BK11 := Tk.mk (blk_below BK11.out hb15)
      have HO15 := Tk.mk ((HO14.out.below hb15).imp_ (fun p cs hk => hk w15 HB15.out BK11.out))
      clear hRc hb15
      have hg0 : w15.cell? ⟨gr, 0, none⟩ = some (.int .i64 3) := (blk_cell BKR.out 0).trans rfl; have hg1 : w15.cell? ⟨gr, 1, none⟩ = some (.slice none 0 0) := (blk_cell BKR.out 1).trans rfl; have hg2 : w15.cell? ⟨gr, 2, none⟩ = some (.int .i64 0) := (blk_cell BKR.out 2).trans rfl; have hg3 : w15.cell? ⟨gr, 3, none⟩ = some (.int .i64 0) := (blk_cell BKR.out 3).trans rfl; have hg4 : w15.cell? ⟨gr, 4, none⟩ = some (.bool false) := (blk_cell BKR.out 4).trans rfl; have hg5 : w15.cell? ⟨gr, 5, none⟩ = some (.slice A7 (n + 1) c7) := (blk_cell BKR.out 5).trans rfl; have hgf5 : w15.frozen? ⟨gr, 5, none⟩ = false := blk_frozen BKR.out 5
      go_wp2_with fail
      have HRD := OwnRow_C' HO15.out (Below.refl _ _)
      have hlen : (List.replicate n x ++ [starN x]).length = n + 1 := by simp
      rw [hlen] at HRD
      refine (comp_row (List.replicate n x ++ [starN x]) A7 c7 (n + 1) hlen w15 HRD.2.2 HRD.2.1 (fun k => bnd_list _ _ _ _ (by rw [hlen]; omega) (fun y hy k => ?_)) L2 E2 HE.out.2.2.1 HE.out.2.2.2).mono ?_
      · rcases List.mem_append.1 hy with hy | hy
        · rw [List.eq_of_mem_replicate hy]; exact HX.out k
        · rw [List.mem_singleton.1 hy]
          exact bnd_list _ _ _ _ (by simp) (fun z hz k => by rw [List.mem_singleton.1 hz]; exact HX.out k)
      clear HRD hlen
      rintro e w16 ⟨Ad, cd, rfl, hRd, hb16⟩
      have HB16 := Tk.mk (below_then HB15.out HB15.out.size hb16)
      obtain ⟨_, hla, hCa⟩ := Kd.R_reads' (Kd.R_below HRA.out hb16)
      obtain ⟨_, hlb, hCb⟩ := Kd.R_reads' (Kd.R_below HRB.out hb16)
      obtain ⟨_, hlc, hCc⟩ := Kd.R_reads' (Kd.R_below HRC.out hb16)
      obtain ⟨_, hld, hCd⟩ := Kd.R_reads' hRd
      have H1 := Tk.mk (And.intro hla (And.intro hCa (And.intro hlb hCb)))
      have H2 := Tk.mk (And.intro hlc (And.intro hCc (And.intro hld hCd)))
      clear hla hCa hlb hCb hlc hCc hld hCd hRd hb16
      clear hg0 hg1 hg2 hg3 hg4 hg5 hgf5
      go_wp2_with fail
      refine (same_calls L1 Aa ca Ab cb w16 H1.out.2.1 H1.out.1 H1.out.2.2.2 H1.out.2.2.1 HS1.out.2 HS1.out.1).mono ?_
      rintro e w17 ⟨rfl, hb17⟩
      have HB17 := Tk.mk (below_then HB16.out HB16.out.size hb17)
      have H2 := Tk.mk (And.intro H2.out.1 (And.intro (Kd.C_below H2.out.2.1 hb17) (And.intro H2.out.2.2.1 (Kd.C_below H2.out.2.2.2 hb17))))
      clear hb17
      go_wp2_with fail
      refine (same_calls L2 Ac cc Ad cd w17 H2.out.2.1 H2.out.1 H2.out.2.2.2 H2.out.2.2.1 HS2.out.2 HS2.out.1).mono ?_
      rintro e w18 ⟨rfl, hb18⟩
      have HB18 := Tk.mk (below_then HB17.out HB17.out.size hb18)
      clear hb18
      go_wp2_with fail
      refine (heads10_calls _).mono ?_
      rintro e w19 ⟨rfl, hb19⟩
      have HB19 := Tk.mk (below_then HB18.out HB18.out.size hb19)
      clear hb19
      go_wp2_with fail
      go_ret
      exact ⟨rfl, HB19.out⟩
theorem nfawrites_walk (x : S26) (A1 : Option Addr) (c1 : Nat) (A5 : Option Addr) (c5 : Nat) (n : Int) (w : World) (h1 : k54.C w A1 x.f1.length x.f1) (h2 : x.f1.length ≤ c1) (h3 : k26.C w A5 x.f5.length x.f5) (h4 : x.f5.length ≤ c5) (hbd : ∀ k, bnd k x) : Calls Try.prog 4 #[.agg #[.int .i64 x.f0, .slice A1 x.f1.length c1, .int .i64 x.f2, .int .i64 x.f3, .bool x.f4, .slice A5 x.f5.length c5], .int .i64 n] w fun e w' => e = .returned (.bool true) ∧ Below w.heap.size w w' := by
  by_cases hr : rightB 1000 x = true
  · by_cases hn : n < 2 ∨ 12 < n
    · exact writes_out x A1 c1 A5 c5 w h1 h2 h3 h4 hbd n hr hn
    · by_cases hl : levN 1000 x ≤ 900
      · obtain ⟨m, rfl⟩ : ∃ m : Nat, n = (m : Int) := ⟨n.toNat, by omega⟩
        exact writes_good x A1 c1 A5 c5 w h1 h2 h3 h4 hbd m hr (by omega) (by omega) hl
      · exact writes_deep x A1 c1 A5 c5 w h1 h2 h3 h4 hbd n hr (by omega) (by omega) hl
  · exact writes_wrong x A1 c1 A5 c5 w h1 h2 h3 h4 hbd n hr
end Go.Proofs.Ytbgfobdlnlkfiaa.A
