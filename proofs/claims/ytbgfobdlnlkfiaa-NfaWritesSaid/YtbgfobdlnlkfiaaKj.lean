/- Several texts of this claim, laid together. -/
import Derived.Test.YtbgfobdlnlkfiaaKb
import Derived.Test.YtbgfobdlnlkfiaaB3
import Derived.Test.YtbgfobdlnlkfiaaKi
import Derived.Test.YtbgfobdlnlkfiaaKa
import Derived.ChangeArms
import Derived.SizedLaws
/- Plain: the states of a right tree may be: their ways lie within, only forks have two, none is the last one. -/
namespace Go.Proofs.Ytbgfobdlnlkfiaa.A
open Go.RowKit Go.Proofs.YtbgfobdlnlkfiaaW.PrintWords Go.Proofs.YtbgfobdlnlkfiaaW.PrintLast Go.Proofs.YtbgfobdlnlkfiaaW.PrintMore
attribute [local go_sem] max2_int min2_int max_two min_two max_three min_three max_four min_four
set_option linter.unusedVariables false
set_option linter.unusedSimpArgs false

def okS (m : Nat) (s : S38) : Prop := (1 ≤ s.f0 ∧ s.f0 ≤ 6) ∧ (0 ≤ s.f2 ∧ s.f2 ≤ m) ∧ (s.f0 = 2 → 0 ≤ s.f3 ∧ s.f3 ≤ m) ∧ (s.f0 ≠ 2 → s.f3 = 0) ∧ (s.f0 ≠ 1 → s.f1 = []) ∧ normB s.f1 = true
def Okl (l : List S38) : Prop := ∀ s ∈ l, okS l.length s
def Ext (l l' : List S38) : Prop := ∃ t, l' = l ++ t
def isF (l : List S38) (i : Nat) : Prop := ∃ s, l[i]? = some s ∧ s.f0 = 2
theorem okS.mono {m m' : Nat} {s : S38} (h : okS m s) (hm : m ≤ m') : okS m' s := by
  obtain ⟨h1, h2, h3, h4⟩ := h
  refine ⟨h1, ⟨h2.1, by omega⟩, fun e => ?_, h4⟩
  have := h3 e
  omega
theorem Ext.refl (l : List S38) : Ext l l := ⟨[], by simp⟩
theorem Ext.trans {a b c : List S38} (h : Ext a b) (k : Ext b c) : Ext a c := by
  obtain ⟨t, rfl⟩ := h
  obtain ⟨u, rfl⟩ := k
  exact ⟨t ++ u, by simp⟩
theorem Ext.len {a b : List S38} (h : Ext a b) : a.length ≤ b.length := by
  obtain ⟨t, rfl⟩ := h
  simp
theorem Ext.at_ {a b : List S38} (h : Ext a b) {i : Nat} (hi : i < a.length) : b[i]? = a[i]? := by
  obtain ⟨t, rfl⟩ := h
  exact List.getElem?_append_left hi
theorem isF.lt {l : List S38} {i : Nat} (h : isF l i) : i < l.length := by
  obtain ⟨s, hs, _⟩ := h
  exact (List.getElem?_eq_some_iff.1 hs).1
theorem isF.ext {a b : List S38} {i : Nat} (h : isF a i) (k : Ext a b) : isF b i := by
  obtain ⟨s, hs, e⟩ := h
  exact ⟨s, (k.at_ (List.getElem?_eq_some_iff.1 hs).1).trans hs, e⟩
theorem ext_set {a b : List S38} (h : Ext a b) {i : Nat} (hi : a.length ≤ i) (v : S38) : Ext a (b.set i v) := by
  obtain ⟨t, rfl⟩ := h
  exact ⟨t.set (i - a.length) v, by rw [List.set_append_right _ _ hi]⟩
theorem Okl.snoc {l : List S38} {s : S38} (h : Okl l) (hs : okS (l.length + 1) s) : Okl (l ++ [s]) := by
  intro q hq
  simp only [List.length_append, List.length_singleton]
  rcases List.mem_append.1 hq with hq | hq
  · exact (h q hq).mono (by omega)
  · rw [List.mem_singleton.1 hq]; exact hs
theorem Okl.set {l : List S38} {i : Nat} {s : S38} (h : Okl l) (hs : okS l.length s) : Okl (l.set i s) := by
  intro q hq
  rw [List.length_set]
  rcases List.mem_or_eq_of_mem_set hq with hq | rfl
  · exact h q hq
  · exact hs
theorem rd38_at {l : List S38} {i : Nat} {s : S38} (h : l[i]? = some s) : rd_T38 l (i : Int) = s := by
  obtain ⟨hi, e⟩ := List.getElem?_eq_some_iff.1 h
  simp [rd_T38, hi, e]
theorem Okl.setB {l : List S38} {i : Nat} (h : Okl l) (hf : isF l i) : Okl (setBF l i) := by
  obtain ⟨s, hs, e⟩ := hf
  have h1 := h s (List.mem_of_getElem? hs)
  unfold setBF
  refine h.set ?_
  rw [rd38_at hs]
  obtain ⟨a, b, c, d, f, g⟩ := h1
  exact ⟨a, b, fun _ => ⟨by simp, by simp⟩, fun k => absurd e k, f, g⟩
theorem Okl.setAB {l : List S38} {i : Nat} {q : Nat} (h : Okl l) (hf : isF l i) (hq : q ≤ l.length) : Okl (setABF l i q) := by
  obtain ⟨s, hs, e⟩ := hf
  have h1 := h s (List.mem_of_getElem? hs)
  unfold setABF
  refine h.set ?_
  rw [rd38_at hs]
  obtain ⟨a, b, c, d, f, g⟩ := h1
  exact ⟨a, ⟨by simp, by simpa using hq⟩, fun _ => ⟨by simp, by simpa using hq⟩, fun k => absurd e k, f, g⟩
theorem isF.set {l : List S38} {i j : Nat} {v : S38} (h : isF l i) (hv : v.f0 = 2) : isF (l.set j v) i := by
  obtain ⟨s, hs, e⟩ := h
  by_cases hij : j = i
  · subst hij
    exact ⟨v, by rw [List.getElem?_set_self (List.getElem?_eq_some_iff.1 hs).1], hv⟩
  · exact ⟨s, by rw [List.getElem?_set_ne hij]; exact hs, e⟩
theorem isF.setB {l : List S38} {i j : Nat} (h : isF l i) (hj : isF l j) : isF (setBF l j) i := by
  obtain ⟨s, hs, e⟩ := hj
  exact h.set (by rw [rd38_at hs]; exact e)
theorem isF.setAB {l : List S38} {i j : Nat} {q : Int} (h : isF l i) (hj : isF l j) : isF (setABF l j q) i := by
  obtain ⟨s, hs, e⟩ := hj
  exact h.set (by rw [rd38_at hs]; exact e)
theorem okl_fork {l : List S38} (h : Okl l) : Okl (forkF l) := by
  refine h.snoc ⟨by simp, ⟨by simp; omega, by simp⟩, fun _ => ⟨by simp, by simp; omega⟩, fun k => absurd rfl k, fun _ => rfl, rfl⟩
theorem ext_fork (l : List S38) : Ext l (forkF l) := ⟨_, rfl⟩
theorem isF_fork (l : List S38) : isF (forkF l) l.length := ⟨⟨2, [], l.length + 1, 0⟩, by simp [forkF], rfl⟩
/-- What a piece of the builder does. -/
def Stp (f : List S38 → List S38) : Prop := ∀ l, Ext l (f l) ∧ (Okl l → Okl (f l))
theorem Stp.times {f : List S38 → List S38} (h : Stp f) : ∀ n, Stp (timesF f n)
  | 0, l => ⟨Ext.refl l, id⟩
  | n + 1, l => ⟨(h l).1.trans (Stp.times h n (f l)).1, fun k => (Stp.times h n (f l)).2 ((h l).2 k)⟩
theorem Stp.star {f : List S38 → List S38} (h : Stp f) : Stp (starF f) := by
  intro l
  have h1 := h (forkF l)
  have e1 : Ext l (f (forkF l)) := (ext_fork l).trans h1.1
  have e2 : Ext l (forkF (f (forkF l))) := e1.trans (ext_fork _)
  have f1 : isF (forkF (f (forkF l))) (f (forkF l)).length := isF_fork _
  have f2 : isF (forkF (f (forkF l))) l.length := ((isF_fork l).ext h1.1).ext (ext_fork _)
  have hl := e1.len
  unfold starF
  refine ⟨ext_set (ext_set e2 hl _) (Nat.le_refl _) _, fun k => ?_⟩
  have k1 := okl_fork (h1.2 (okl_fork k))
  exact Okl.setB (Okl.setAB k1 f1 (by rw [forkF_length]; omega)) (f2.setAB f1)
theorem outs_stp {base : List S38} : ∀ (o : List Nat) (l : List S38), Ext base l → (∀ j ∈ o, base.length ≤ j ∧ isF l j) → Ext base (outsF l o) ∧ (Okl l → Okl (outsF l o))
  | [], l, e, _ => ⟨e, id⟩
  | i :: o, l, e, ho => by
    have hi := ho i (List.mem_cons_self)
    have e2 : Ext base (setABF l i l.length) := ext_set e hi.1 _
    have h2 := outs_stp o (setABF l i l.length) e2 (fun j hj => ⟨(ho j (List.mem_cons_of_mem _ hj)).1, (ho j (List.mem_cons_of_mem _ hj)).2.setAB hi.2⟩)
    exact ⟨h2.1, fun k => h2.2 (k.setAB hi.2 (Nat.le_refl _))⟩
theorem backs_stp {base : List S38} : ∀ (o : List Nat) (l : List S38), Ext base l → (∀ j ∈ o, base.length ≤ j ∧ isF l j) → Ext base (backsF l o) ∧ (Okl l → Okl (backsF l o))
  | [], l, e, _ => ⟨e, id⟩
  | i :: o, l, e, ho => by
    have hi := ho i (List.mem_cons_self)
    have e2 : Ext base (setBF l i) := ext_set e hi.1 _
    have h2 := backs_stp o (setBF l i) e2 (fun j hj => ⟨(ho j (List.mem_cons_of_mem _ hj)).1, (ho j (List.mem_cons_of_mem _ hj)).2.setB hi.2⟩)
    exact ⟨h2.1, fun k => h2.2 (k.setB hi.2)⟩
theorem altGo_stp {base : List S38} {b : S26 → List S38 → List S38} : ∀ (ys : List S26) (l : List S38) (o : List Nat), (∀ y ∈ ys, Stp (b y)) → Ext base l → (∀ j ∈ o, base.length ≤ j ∧ isF l j) →
    Ext base (altGo b ys l o).1 ∧ (Okl l → Okl (altGo b ys l o).1) ∧ ∀ j ∈ (altGo b ys l o).2, base.length ≤ j ∧ isF (altGo b ys l o).1 j
  | [], l, o, _, e, ho => ⟨e, id, ho⟩
  | [y], l, o, hb, e, ho => ⟨e.trans (hb y (List.mem_singleton_self _) l).1, (hb y (List.mem_singleton_self _) l).2, fun j hj => ⟨(ho j hj).1, (ho j hj).2.ext (hb y (List.mem_singleton_self _) l).1⟩⟩
  | y :: z :: r, l, o, hb, e, ho => by
    have h1 := hb y (List.mem_cons_self) (forkF l)
    have e1 : Ext l (b y (forkF l)) := (ext_fork l).trans h1.1
    have e2 : Ext l (forkF (b y (forkF l))) := e1.trans (ext_fork _)
    have f1 : isF (forkF (b y (forkF l))) l.length := ((isF_fork l).ext h1.1).ext (ext_fork _)
    have f2 : isF (forkF (b y (forkF l))) (b y (forkF l)).length := isF_fork _
    have e3 : Ext base (setBF (forkF (b y (forkF l))) l.length) := ext_set (e.trans e2) e.len _
    have h3 := altGo_stp (z :: r) (setBF (forkF (b y (forkF l))) l.length) (o ++ [(b y (forkF l)).length]) (fun q hq => hb q (List.mem_cons_of_mem _ hq)) e3 (fun j hj => by
      rcases List.mem_append.1 hj with hj | hj
      · exact ⟨(ho j hj).1, ((ho j hj).2.ext e2).setB f1⟩
      · rw [List.mem_singleton.1 hj]
        exact ⟨Nat.le_trans e.len e1.len, f2.setB f1⟩)
    exact ⟨h3.1, fun k => h3.2.1 (Okl.setB (okl_fork (h1.2 (okl_fork k))) f1), h3.2.2⟩
theorem optGo_stp {base : List S38} {f : List S38 → List S38} (h : Stp f) : ∀ (n : Nat) (l : List S38) (o : List Nat), Ext base l → (∀ j ∈ o, base.length ≤ j ∧ isF l j) →
    Ext base (optGo f n l o).1 ∧ (Okl l → Okl (optGo f n l o).1) ∧ ∀ j ∈ (optGo f n l o).2, base.length ≤ j ∧ isF (optGo f n l o).1 j
  | 0, l, o, e, ho => ⟨e, id, ho⟩
  | n + 1, l, o, e, ho => by
    have h1 := h (forkF l)
    have e1 : Ext l (f (forkF l)) := (ext_fork l).trans h1.1
    have h3 := optGo_stp h n (f (forkF l)) (o ++ [l.length]) (e.trans e1) (fun j hj => by
      rcases List.mem_append.1 hj with hj | hj
      · exact ⟨(ho j hj).1, (ho j hj).2.ext e1⟩
      · rw [List.mem_singleton.1 hj]
        exact ⟨e.len, (isF_fork l).ext h1.1⟩)
    exact ⟨h3.1, fun k => h3.2.1 (h1.2 (okl_fork k)), h3.2.2⟩
theorem Stp.alt {b : S26 → List S38 → List S38} {ys : List S26} (hb : ∀ y ∈ ys, Stp (b y)) : Stp (altF b ys) := by
  intro l
  have h1 := altGo_stp (base := l) ys l [] hb (Ext.refl l) (fun j hj => by simp at hj)
  have h2 := outs_stp (base := l) _ _ h1.1 h1.2.2
  exact ⟨h2.1, fun k => h2.2 (h1.2.1 k)⟩
theorem Stp.opt {f : List S38 → List S38} (h : Stp f) (n : Nat) : Stp (optF f n) := by
  intro l
  have h1 := optGo_stp (base := l) h n l [] (Ext.refl l) (fun j hj => by simp at hj)
  have h2 := backs_stp (base := l) _ _ h1.1 h1.2.2
  exact ⟨h2.1, fun k => h2.2 (h1.2.1 k)⟩
theorem Stp.row {b : S26 → List S38 → List S38} : ∀ {ys : List S26}, (∀ y ∈ ys, Stp (b y)) → Stp (fun l => ys.foldl (fun l y => b y l) l)
  | [], _, l => ⟨Ext.refl l, id⟩
  | y :: ys, hb, l => by
    have h1 := hb y (List.mem_cons_self) l
    have h2 := Stp.row (ys := ys) (fun q hq => hb q (List.mem_cons_of_mem _ hq)) (b y l)
    exact ⟨h1.1.trans h2.1, fun k => h2.2 (h1.2 k)⟩
theorem Stp.leaf (k : Int) (r : List S54) (h1 : 1 ≤ k) (h6 : k ≤ 6) (h2 : k ≠ 2) (hr : k ≠ 1 → r = []) (hn : normB r = true) : Stp (fun l => l ++ [⟨k, r, l.length + 1, 0⟩]) := fun l =>
  ⟨⟨_, rfl⟩, fun h => h.snoc ⟨⟨h1, h6⟩, ⟨by simp; omega, by simp⟩, fun e => absurd e h2, fun _ => rfl, hr, hn⟩⟩
theorem Stp.build : ∀ (n : Nat) (x : S26), rightB n x = true → Stp (buildF n x)
  | 0, x, h => by simp [rightB] at h
  | n + 1, x, h => by
    simp only [rightB, Bool.and_eq_true] at h
    obtain ⟨hn, hs⟩ := h
    have ih : ∀ y ∈ x.f5, Stp (buildF n y) := fun y hy => Stp.build n y (List.all_eq_true.1 hs y hy)
    unfold nodeB at hn
    intro l
    unfold buildF
    by_cases k2 : x.f0 = 2
    · rw [if_neg (by omega), if_pos k2] at hn
      rw [if_pos k2]
      simp only [Bool.and_eq_true] at hn
      exact Stp.leaf 1 x.f1 (by omega) (by omega) (by omega) (fun k => absurd rfl k) hn.1.1.1.2 l
    rw [if_neg k2]
    by_cases k6 : x.f0 = 6
    · rw [if_pos k6]; exact Stp.leaf 3 [] (by omega) (by omega) (by omega) (fun _ => rfl) rfl l
    rw [if_neg k6]
    by_cases k7 : x.f0 = 7
    · rw [if_pos k7]; exact Stp.leaf 4 [] (by omega) (by omega) (by omega) (fun _ => rfl) rfl l
    rw [if_neg k7]
    by_cases k8 : x.f0 = 8
    · rw [if_pos k8]; exact Stp.leaf 5 [] (by omega) (by omega) (by omega) (fun _ => rfl) rfl l
    rw [if_neg k8]
    by_cases k9 : x.f0 = 9
    · rw [if_pos k9]; exact Stp.leaf 6 [] (by omega) (by omega) (by omega) (fun _ => rfl) rfl l
    rw [if_neg k9]
    by_cases k3 : x.f0 = 3
    · rw [if_pos k3]; exact Stp.row ih l
    rw [if_neg k3]
    by_cases k4 : x.f0 = 4
    · rw [if_pos k4]; exact Stp.alt ih l
    rw [if_neg k4]
    by_cases k5 : x.f0 = 5
    · rw [if_pos k5]
      rw [if_neg (by omega), if_neg k2, if_neg (by omega), if_pos k5] at hn
      simp only [Bool.and_eq_true, decide_eq_true_eq] at hn
      have h1 : x.f5.length = 1 := hn.1.1.1.1.1.1
      have hy : Stp (buildF n (rd_T26 x.f5 0)) := ih _ (by
        have e : rd_T26 x.f5 0 = x.f5[0] := by simp [rd_T26, h1]
        rw [e]; exact List.getElem_mem (by omega))
      unfold repF
      have ht := Stp.times hy (if decide (sizeF n (rd_T26 x.f5 0) 1 = 0) = true then 0 else x.f2.toNat) l
      split
      · have h2 := Stp.star hy (timesF (buildF n (rd_T26 x.f5 0)) (if decide (sizeF n (rd_T26 x.f5 0) 1 = 0) = true then 0 else x.f2.toNat) l)
        exact ⟨ht.1.trans h2.1, fun k => h2.2 (ht.2 k)⟩
      · have h2 := Stp.opt hy (x.f3 - x.f2).toNat (timesF (buildF n (rd_T26 x.f5 0)) (if decide (sizeF n (rd_T26 x.f5 0) 1 = 0) = true then 0 else x.f2.toNat) l)
        exact ⟨ht.1.trans h2.1, fun k => h2.2 (ht.2 k)⟩
    rw [if_neg k5]
    exact ⟨Ext.refl l, id⟩
theorem okl_build {n : Nat} {x : S26} (h : rightB n x = true) : Okl (buildF n x []) := (Stp.build n x h []).2 (fun s hs => by simp at hs)
end Go.Proofs.Ytbgfobdlnlkfiaa.A
/- Plain: caliperref09.Check tells the right trees. -/
namespace Go.Proofs.Ytbgfobdlnlkfiaa.A
open Go.RowKit Go.Proofs.YtbgfobdlnlkfiaaW.PrintWords Go.Proofs.YtbgfobdlnlkfiaaW.PrintLast Go.Proofs.YtbgfobdlnlkfiaaW.PrintMore
attribute [local go_sem] max2_int min2_int max_two min_two max_three min_three max_four min_four
set_option linter.unusedVariables false
set_option linter.unusedSimpArgs false

theorem rd54_at (l : List S54) (j : Nat) (h : j < l.length) : rd_T54 l (j : Int) = l[j] := by simp [rd_T54, h]
theorem ranges_l0 (l : List S54) (hm : l.length ≤ 8796093022208) : ∀ (d j : Nat) (lo : Int), j + d = l.length → ((j = 0 ∧ lo = 0) ∨ (0 < j ∧ lo = (rd_T54 l ((j : Int) - 1)).f1 + 2 ∧ 0 ≤ (rd_T54 l ((j : Int) - 1)).f1 ∧ (rd_T54 l ((j : Int) - 1)).f1 ≤ 1114111)) →
    Ev (fun k => caliperref09_ranges.l0 k l (j : Int)) (normFrom lo (l.drop j))
  | 0, j, lo, hj, _ => by
    rw [List.drop_eq_nil_of_le (by omega)]
    refine Ev.step (f := fun _ => some true) (fun k => by simp only [caliperref09_ranges.l0]; rw [if_neg (by omega)]) (Ev.now _)
  | d + 1, j, lo, hj, hlo => by
    have hlt : j < l.length := by omega
    rw [List.drop_eq_getElem_cons hlt]
    have he := rd54_at l j hlt
    by_cases h1 : l[j].f0 < 0
    · refine Ev.step (f := fun _ => some false) (fun k => by simp only [caliperref09_ranges.l0]; rw [if_pos (by omega), if_pos (by omega), he, if_pos h1]) ?_
      have : normFrom lo (l[j] :: l.drop (j + 1)) = false := by simp only [normFrom]; simp; omega
      rw [this]; exact Ev.now _
    by_cases h2 : l[j].f0 > l[j].f1
    · refine Ev.step (f := fun _ => some false) (fun k => by simp only [caliperref09_ranges.l0]; rw [if_pos (by omega), if_pos (by omega), he, if_neg h1, if_pos h2]) ?_
      have : normFrom lo (l[j] :: l.drop (j + 1)) = false := by simp only [normFrom]; simp; omega
      rw [this]; exact Ev.now _
    by_cases h3 : l[j].f1 > 1114111
    · refine Ev.step (f := fun _ => some false) (fun k => by simp only [caliperref09_ranges.l0]; rw [if_pos (by omega), if_pos (by omega), he, if_neg h1, if_neg h2, if_pos h3]) ?_
      have : normFrom lo (l[j] :: l.drop (j + 1)) = false := by simp only [normFrom]; simp; omega
      rw [this]; exact Ev.now _
    have hnext := ranges_l0 l hm d (j + 1) (l[j].f1 + 2) (by omega) (.inr ⟨by omega, by
      have e : ((j + 1 : Nat) : Int) - 1 = (j : Int) := by omega
      rw [e, he]; exact ⟨rfl, by omega, by omega⟩⟩)
    have ew : wrap64 ((j : Int) + 1) = ((j + 1 : Nat) : Int) := by unfold wrap64; omega
    rcases hlo with ⟨h0, rfl⟩ | ⟨h0, rfl, hp0, hp1⟩
    · refine Ev.step (f := fun k => caliperref09_ranges.l0 k l (((j + 1 : Nat) : Int))) (fun k => by simp only [caliperref09_ranges.l0]; rw [if_pos (by omega), if_pos (by omega), he, if_neg h1, if_neg h2, if_neg h3, if_neg (by omega), ew]) ?_
      have : normFrom 0 (l[j] :: l.drop (j + 1)) = normFrom (l[j].f1 + 2) (l.drop (j + 1)) := by
        simp only [normFrom]
        rw [decide_eq_true (by omega), decide_eq_true (by omega), decide_eq_true (by omega)]; rfl
      rw [this]; exact hnext
    · have ew2 : wrap64 ((j : Int) - 1) = (j : Int) - 1 := by unfold wrap64; omega
      have ew3 : wrap64 ((rd_T54 l ((j : Int) - 1)).f1 + 1) = (rd_T54 l ((j : Int) - 1)).f1 + 1 := by unfold wrap64; omega
      by_cases h4 : (rd_T54 l ((j : Int) - 1)).f1 + 1 ≥ l[j].f0
      · refine Ev.step (f := fun _ => some false) (fun k => by simp only [caliperref09_ranges.l0]; rw [if_pos (by omega), if_pos (by omega), he, if_neg h1, if_neg h2, if_neg h3, if_pos (by omega), ew2, if_pos (by omega), if_pos (by omega), ew3, if_pos h4]) ?_
        have : normFrom ((rd_T54 l ((j : Int) - 1)).f1 + 2) (l[j] :: l.drop (j + 1)) = false := by simp only [normFrom]; rw [decide_eq_false (by omega)]; simp
        rw [this]; exact Ev.now _
      · refine Ev.step (f := fun k => caliperref09_ranges.l0 k l (((j + 1 : Nat) : Int))) (fun k => by simp only [caliperref09_ranges.l0]; rw [if_pos (by omega), if_pos (by omega), he, if_neg h1, if_neg h2, if_neg h3, if_pos (by omega), ew2, if_pos (by omega), if_pos (by omega), ew3, if_neg h4, ew]) ?_
        have : normFrom ((rd_T54 l ((j : Int) - 1)).f1 + 2) (l[j] :: l.drop (j + 1)) = normFrom (l[j].f1 + 2) (l.drop (j + 1)) := by
          simp only [normFrom]
          rw [decide_eq_true (by omega), decide_eq_true (by omega), decide_eq_true (by omega)]; rfl
        rw [this]; exact hnext
theorem ranges_ev (l : List S54) (hm : l.length ≤ 8796093022208) : Ev (fun k => caliperref09_ranges.f k l) (normB l) := by
  have h := ranges_l0 l hm l.length 0 0 (by omega) (.inl ⟨rfl, rfl⟩)
  rw [List.drop_zero] at h
  exact h
def shapeB (x : S26) : Bool :=
  if x.f0 = 3 ∨ x.f0 = 4 then decide (2 ≤ x.f5.length)
  else if x.f0 = 5 then decide (x.f5.length = 1) && decide (0 ≤ x.f2) && decide (x.f2 ≤ 1000) && decide (-1 ≤ x.f3) && decide (x.f3 ≤ 1000) && (decide (x.f3 < 0) || decide (x.f2 ≤ x.f3))
  else if x.f0 = 2 ∨ x.f0 = 1 ∨ x.f0 = 6 ∨ x.f0 = 7 ∨ x.f0 = 8 ∨ x.f0 = 9 then decide (x.f5.length = 0)
  else false
def preB (x : S26) : Bool := (decide (x.f0 = 2) || decide (x.f1.length = 0)) && (decide (x.f0 = 5) || (decide (x.f2 = 0) && decide (x.f3 = 0) && !x.f4)) && normB x.f1
theorem node_pre (x : S26) : nodeB x = (preB x && shapeB x) := by
  have hn : x.f1.length = 0 → normB x.f1 = true := fun h => by rw [List.eq_nil_of_length_eq_zero h]; rfl
  unfold nodeB preB shapeB
  by_cases h : 1 ≤ x.f0 ∧ x.f0 ≤ 9
  · have hk : x.f0 = 1 ∨ x.f0 = 2 ∨ x.f0 = 3 ∨ x.f0 = 4 ∨ x.f0 = 5 ∨ x.f0 = 6 ∨ x.f0 = 7 ∨ x.f0 = 8 ∨ x.f0 = 9 := by omega
    rcases hk with k | k | k | k | k | k | k | k | k <;> simp only [k] <;> by_cases h0 : x.f1.length = 0 <;> simp [h0, hn] <;> first | done | (cases normB x.f1 <;> cases x.f4 <;> simp <;> omega) | skip
    all_goals first | (cases x.f4 <;> simp [Bool.and_comm, Bool.and_left_comm, Bool.and_assoc]; done) | skip
  · simp [show ¬ (x.f0 = 1 ∨ x.f0 = 6 ∨ x.f0 = 7 ∨ x.f0 = 8 ∨ x.f0 = 9) from by omega, show ¬ x.f0 = 2 from by omega, show ¬ (x.f0 = 3 ∨ x.f0 = 4) from by omega, show ¬ x.f0 = 5 from by omega, show ¬ (x.f0 = 2 ∨ x.f0 = 1 ∨ x.f0 = 6 ∨ x.f0 = 7 ∨ x.f0 = 8 ∨ x.f0 = 9) from by omega]
section
variable (n : Nat) (hn : n + 1 ≤ 1000) (x : S26) (hl : x.f5.length ≤ 8796093022208)
  (ih : ∀ y ∈ x.f5, Ev (fun k => caliperref09_right.f k y.f0 y.f1 y.f2 y.f3 y.f4 y.f5 (n : Int)) (rightB n y))
include hn hl ih
theorem right_l0 : ∀ (d i : Nat), i + d = x.f5.length →
    Ev (fun k => caliperref09_right.l0 k ((n + 1 : Nat) : Int) (x.f5.length : Int) (i : Int) x.f0 x.f1 x.f2 x.f3 x.f4 x.f5) ((x.f5.drop i).all (rightB n))
  | 0, i, hi => by
    rw [List.drop_eq_nil_of_le (by omega)]
    exact Ev.step (f := fun _ => some true) (fun k => by simp only [caliperref09_right.l0]; rw [if_neg (by omega)]) (Ev.now _)
  | d + 1, i, hi => by
    have hlt : i < x.f5.length := by omega
    have he : rd_T26 x.f5 (i : Int) = x.f5[i] := rd26 hlt
    have ew : wrap64 ((i : Int) + 1) = ((i + 1 : Nat) : Int) := by unfold wrap64; omega
    have ew1 : wrap64 (((n + 1 : Nat) : Int) - 1) = (n : Int) := by unfold wrap64; omega
    rw [List.drop_eq_getElem_cons hlt, List.all_cons]
    refine Ev.step (f := fun k => (caliperref09_right.f k x.f5[i].f0 x.f5[i].f1 x.f5[i].f2 x.f5[i].f3 x.f5[i].f4 x.f5[i].f5 (n : Int)).bind fun t => if t = true then caliperref09_right.l0 k ((n + 1 : Nat) : Int) (x.f5.length : Int) ((i + 1 : Nat) : Int) x.f0 x.f1 x.f2 x.f3 x.f4 x.f5 else some false)
      (fun k => by simp only [caliperref09_right.l0]; rw [if_pos (by omega), if_pos (by omega), if_pos (by omega), he, ew, ew1]) ?_
    refine Ev.bind (ih _ (List.getElem_mem hlt)) ?_
    cases rightB n x.f5[i] with
    | false => exact Ev.now _
    | true => simpa using right_l0 d (i + 1) (by omega)
theorem right_j3 : Ev (fun k => caliperref09_right.j3 k ((n + 1 : Nat) : Int) (x.f5.length : Int) x.f0 x.f1 x.f2 x.f3 x.f4 x.f5) (x.f5.all (rightB n)) := by
  have h := right_l0 n hn x hl ih x.f5.length 0 (by omega)
  rw [List.drop_zero] at h
  exact Ev.step (fun k => by simp only [caliperref09_right.j3]; rfl) h
theorem right_j2 : Ev (fun k => caliperref09_right.j2 k ((n + 1 : Nat) : Int) (x.f5.length : Int) true x.f0 x.f1 x.f2 x.f3 x.f4 x.f5) (decide (x.f5.length = 0) && x.f5.all (rightB n)) := by
  by_cases h0 : x.f5.length = 0
  · rw [decide_eq_true h0, Bool.true_and]
    exact Ev.step (fun k => by simp only [caliperref09_right.j2]; rw [if_pos trivial, if_neg (by omega)]) (right_j3 n hn x hl ih)
  · rw [decide_eq_false h0, Bool.false_and]
    exact Ev.step (f := fun _ => some false) (fun k => by simp only [caliperref09_right.j2]; rw [if_pos trivial, if_pos (by omega)]) (Ev.now _)
theorem right_j1 (b : Bool) (hb : b = true ↔ (x.f0 = 3 ∨ x.f0 = 4)) : Ev (fun k => caliperref09_right.j1 k ((n + 1 : Nat) : Int) (x.f5.length : Int) x.f0 b x.f0 x.f1 x.f2 x.f3 x.f4 x.f5) (shapeB x && x.f5.all (rightB n)) := by
  have h3 := right_j3 n hn x hl ih
  have h2 := right_j2 n hn x hl ih
  unfold shapeB
  by_cases k3 : x.f0 = 3 ∨ x.f0 = 4
  · have hb1 := hb.2 k3
    subst hb1
    rw [if_pos k3]
    by_cases hq : 2 ≤ x.f5.length
    · rw [decide_eq_true hq, Bool.true_and]
      exact Ev.step (fun k => by simp only [caliperref09_right.j1]; rw [if_pos trivial, if_neg (by omega)]) h3
    · rw [decide_eq_false hq, Bool.false_and]
      exact Ev.step (f := fun _ => some false) (fun k => by simp only [caliperref09_right.j1]; rw [if_pos trivial, if_pos (by omega)]) (Ev.now _)
  · have hb1 : b = false := by cases b with | false => rfl | true => exact absurd (hb.1 rfl) k3
    subst hb1
    rw [if_neg k3]
    by_cases k5 : x.f0 = 5
    · rw [if_pos k5]
      by_cases q1 : x.f5.length = 1
      case neg => rw [decide_eq_false q1]; simp only [Bool.false_and]; exact Ev.step (f := fun _ => some false) (fun k => by simp only [caliperref09_right.j1]; rw [if_neg (by decide), if_pos k5, if_neg (by omega)]) (Ev.now _)
      by_cases q2 : x.f2 < 0
      · rw [decide_eq_false (show ¬ 0 ≤ x.f2 by omega)]; simp only [Bool.false_and, Bool.and_false]; exact Ev.step (f := fun _ => some false) (fun k => by simp only [caliperref09_right.j1]; rw [if_neg (by decide), if_pos k5, if_pos (by omega), if_pos q2]) (Ev.now _)
      by_cases q3 : x.f2 > 1000
      · rw [decide_eq_false (show ¬ x.f2 ≤ 1000 by omega)]; simp only [Bool.false_and, Bool.and_false]; exact Ev.step (f := fun _ => some false) (fun k => by simp only [caliperref09_right.j1]; rw [if_neg (by decide), if_pos k5, if_pos (by omega), if_neg q2, if_pos q3]) (Ev.now _)
      by_cases q4 : x.f3 < -1
      · rw [decide_eq_false (show ¬ -1 ≤ x.f3 by omega)]; simp only [Bool.false_and, Bool.and_false]; exact Ev.step (f := fun _ => some false) (fun k => by simp only [caliperref09_right.j1]; rw [if_neg (by decide), if_pos k5, if_pos (by omega), if_neg q2, if_neg q3, if_pos q4]) (Ev.now _)
      by_cases q5 : x.f3 > 1000
      · rw [decide_eq_false (show ¬ x.f3 ≤ 1000 by omega)]; simp only [Bool.false_and, Bool.and_false]; exact Ev.step (f := fun _ => some false) (fun k => by simp only [caliperref09_right.j1]; rw [if_neg (by decide), if_pos k5, if_pos (by omega), if_neg q2, if_neg q3, if_neg q4, if_pos q5]) (Ev.now _)
      rw [decide_eq_true q1, decide_eq_true (show 0 ≤ x.f2 by omega), decide_eq_true (show x.f2 ≤ 1000 by omega), decide_eq_true (show -1 ≤ x.f3 by omega), decide_eq_true (show x.f3 ≤ 1000 by omega)]
      simp only [Bool.true_and]
      by_cases q6 : x.f3 ≥ 0
      · rw [decide_eq_false (show ¬ x.f3 < 0 by omega), Bool.false_or]
        by_cases q7 : x.f3 < x.f2
        · rw [decide_eq_false (show ¬ x.f2 ≤ x.f3 by omega), Bool.false_and]; exact Ev.step (f := fun _ => some false) (fun k => by simp only [caliperref09_right.j1]; rw [if_neg (by decide), if_pos k5, if_pos (by omega), if_neg q2, if_neg q3, if_neg q4, if_neg q5, if_pos q6, if_pos q7]) (Ev.now _)
        · rw [decide_eq_true (show x.f2 ≤ x.f3 by omega), Bool.true_and]; exact Ev.step (fun k => by simp only [caliperref09_right.j1]; rw [if_neg (by decide), if_pos k5, if_pos (by omega), if_neg q2, if_neg q3, if_neg q4, if_neg q5, if_pos q6, if_neg q7]) h3
      · rw [decide_eq_true (show x.f3 < 0 by omega), Bool.true_or, Bool.true_and]; exact Ev.step (fun k => by simp only [caliperref09_right.j1]; rw [if_neg (by decide), if_pos k5, if_pos (by omega), if_neg q2, if_neg q3, if_neg q4, if_neg q5, if_neg q6]) h3
    rw [if_neg k5]
    by_cases k2 : x.f0 = 2
    · rw [if_pos (by omega)]; exact Ev.step (fun k => by simp only [caliperref09_right.j1]; rw [if_neg (by decide), if_neg k5, if_pos k2, show (x.f0 == 2) = true from by rw [k2]; rfl]) h2
    by_cases k1 : x.f0 = 1
    · rw [if_pos (by omega)]; exact Ev.step (fun k => by simp only [caliperref09_right.j1]; rw [if_neg (by decide), if_neg k5, if_neg k2, if_pos k1, show (x.f0 == 1) = true from by rw [k1]; rfl]) h2
    by_cases k6 : x.f0 = 6
    · rw [if_pos (by omega)]; exact Ev.step (fun k => by simp only [caliperref09_right.j1]; rw [if_neg (by decide), if_neg k5, if_neg k2, if_neg k1, if_pos k6, show (x.f0 == 6) = true from by rw [k6]; rfl]) h2
    by_cases k7 : x.f0 = 7
    · rw [if_pos (by omega)]; exact Ev.step (fun k => by simp only [caliperref09_right.j1]; rw [if_neg (by decide), if_neg k5, if_neg k2, if_neg k1, if_neg k6, if_pos k7, show (x.f0 == 7) = true from by rw [k7]; rfl]) h2
    by_cases k8 : x.f0 = 8
    · rw [if_pos (by omega)]; exact Ev.step (fun k => by simp only [caliperref09_right.j1]; rw [if_neg (by decide), if_neg k5, if_neg k2, if_neg k1, if_neg k6, if_neg k7, if_pos k8, show (x.f0 == 8) = true from by rw [k8]; rfl]) h2
    by_cases k9 : x.f0 = 9
    · rw [if_pos (by omega)]; exact Ev.step (fun k => by simp only [caliperref09_right.j1]; rw [if_neg (by decide), if_neg k5, if_neg k2, if_neg k1, if_neg k6, if_neg k7, if_neg k8, show (x.f0 == 9) = true from by rw [k9]; rfl]) h2
    rw [if_neg (by omega), Bool.false_and]
    refine Ev.step (f := fun k => caliperref09_right.j2 k ((n + 1 : Nat) : Int) (x.f5.length : Int) false x.f0 x.f1 x.f2 x.f3 x.f4 x.f5) (fun k => by simp only [caliperref09_right.j1]; rw [if_neg (by decide), if_neg k5, if_neg k2, if_neg k1, if_neg k6, if_neg k7, if_neg k8, show (x.f0 == 9) = false from beq_eq_false_iff_ne.2 k9]) ?_
    exact Ev.step (f := fun _ => some false) (fun k => by simp only [caliperref09_right.j2]; rw [if_neg (by decide)]) (Ev.now _)
theorem right_j0 (b : Bool) : Ev (fun k => caliperref09_right.j0 k ((n + 1 : Nat) : Int) b x.f0 x.f1 x.f2 x.f3 x.f4 x.f5) (!b && (shapeB x && x.f5.all (rightB n))) := by
  cases b with
  | true => exact Ev.step (f := fun _ => some false) (fun k => by simp only [caliperref09_right.j0]; rw [if_pos trivial]) (Ev.now _)
  | false =>
    simp only [Bool.not_false, Bool.true_and]
    by_cases k3 : x.f0 = 3
    · exact Ev.step (fun k => by simp only [caliperref09_right.j0]; rw [if_neg (by decide), if_pos k3]) (right_j1 n hn x hl ih (x.f0 == 3) (by simp [k3]))
    · exact Ev.step (fun k => by simp only [caliperref09_right.j0]; rw [if_neg (by decide), if_neg k3]) (right_j1 n hn x hl ih (x.f0 == 4) (by simp [k3]))
end
theorem right_ev : ∀ (n : Nat) (x : S26), n ≤ 1000 → bnd n x → Ev (fun k => caliperref09_right.f k x.f0 x.f1 x.f2 x.f3 x.f4 x.f5 (n : Int)) (rightB n x)
  | 0, x, _, _ => by
    refine Ev.step (f := fun k => caliperref09_right.j0 k 0 true x.f0 x.f1 x.f2 x.f3 x.f4 x.f5) (fun k => by simp only [caliperref09_right.f]; rw [if_pos (by omega)]; rfl) ?_
    exact Ev.step (f := fun _ => some false) (fun k => by simp only [caliperref09_right.j0]; rw [if_pos trivial]) (Ev.now _)
  | n + 1, x, hn, hb => by
    obtain ⟨hb1, hb5, hbs⟩ := hb
    have ih : ∀ y ∈ x.f5, Ev (fun k => caliperref09_right.f k y.f0 y.f1 y.f2 y.f3 y.f4 y.f5 (n : Int)) (rightB n y) := fun y hy => right_ev n y (by omega) (hbs y hy)
    have hl : x.f5.length ≤ 8796093022208 := by omega
    have hr := ranges_ev x.f1 (by omega)
    have hT := right_j0 n hn x hl ih true
    have hR := right_j0 n hn x hl ih (!(normB x.f1))
    simp only [Bool.not_true, Bool.false_and, Bool.not_not] at hT hR
    show Ev _ (nodeB x && x.f5.all (rightB n))
    rw [node_pre]
    unfold preB
    have h00 : ¬ ((n + 1 : Nat) : Int) = 0 := by omega
    by_cases k2 : x.f0 = 2
    · have k5 : ¬ x.f0 = 5 := by omega
      rw [decide_eq_true k2, decide_eq_false k5]
      simp only [Bool.true_or, Bool.true_and, Bool.false_or]
      by_cases m2 : x.f2 = 0
      case neg => rw [decide_eq_false m2]; simp only [Bool.false_and]; exact Ev.step (fun k => by simp only [caliperref09_right.f]; rw [if_neg h00, if_pos k2, if_neg k5, if_neg m2]) hT
      by_cases m3 : x.f3 = 0
      case neg => rw [decide_eq_false m3]; simp only [Bool.false_and, Bool.and_false]; exact Ev.step (fun k => by simp only [caliperref09_right.f]; rw [if_neg h00, if_pos k2, if_neg k5, if_pos m2, if_neg m3]) hT
      rw [decide_eq_true m2, decide_eq_true m3]
      by_cases m4 : x.f4 = true
      · rw [m4]; simp only [Bool.not_true, Bool.false_and, Bool.and_false]; exact Ev.step (fun k => by simp only [caliperref09_right.f]; rw [if_neg h00, if_pos k2, if_neg k5, if_pos m2, if_pos m3, if_pos trivial]) (by rw [m4] at hT; exact hT)
      · have m4' : x.f4 = false := by simpa using m4
        rw [m4']
        simp only [Bool.not_false, Bool.true_and]
        rw [m4'] at hR
        rw [Bool.and_assoc]
        exact Ev.step (fun k => by simp only [caliperref09_right.f]; rw [if_neg h00, if_pos k2, if_neg k5, if_pos m2, if_pos m3, if_neg (by decide)]) (Ev.bind hr hR)
    · rw [decide_eq_false k2, Bool.false_or]
      by_cases l0 : x.f1.length = 0
      case neg => rw [decide_eq_false l0]; simp only [Bool.false_and]; exact Ev.step (fun k => by simp only [caliperref09_right.f]; rw [if_neg h00, if_neg k2, if_pos (by omega)]) hT
      rw [decide_eq_true l0, Bool.true_and]
      by_cases k5 : x.f0 = 5
      · rw [decide_eq_true k5, Bool.true_or, Bool.true_and, Bool.and_assoc]
        exact Ev.step (fun k => by simp only [caliperref09_right.f]; rw [if_neg h00, if_neg k2, if_neg (by omega), if_pos k5]) (Ev.bind hr hR)
      · rw [decide_eq_false k5, Bool.false_or]
        by_cases m2 : x.f2 = 0
        case neg => rw [decide_eq_false m2]; simp only [Bool.false_and]; exact Ev.step (fun k => by simp only [caliperref09_right.f]; rw [if_neg h00, if_neg k2, if_neg (by omega), if_neg k5, if_neg m2]) hT
        by_cases m3 : x.f3 = 0
        case neg => rw [decide_eq_false m3]; simp only [Bool.false_and, Bool.and_false]; exact Ev.step (fun k => by simp only [caliperref09_right.f]; rw [if_neg h00, if_neg k2, if_neg (by omega), if_neg k5, if_pos m2, if_neg m3]) hT
        rw [decide_eq_true m2, decide_eq_true m3]
        by_cases m4 : x.f4 = true
        · rw [m4]; simp only [Bool.not_true, Bool.false_and, Bool.and_false]; exact Ev.step (fun k => by simp only [caliperref09_right.f]; rw [if_neg h00, if_neg k2, if_neg (by omega), if_neg k5, if_pos m2, if_pos m3, if_pos trivial]) (by rw [m4] at hT; exact hT)
        · have m4' : x.f4 = false := by simpa using m4
          rw [m4']
          simp only [Bool.not_false, Bool.true_and]
          rw [m4'] at hR
          rw [Bool.and_assoc]
          exact Ev.step (fun k => by simp only [caliperref09_right.f]; rw [if_neg h00, if_neg k2, if_neg (by omega), if_neg k5, if_pos m2, if_pos m3, if_neg (by decide)]) (Ev.bind hr hR)
theorem check_ev (x : S26) (hb : bnd 1000 x) : ∃ k, caliperref09_Check.f k x.f0 x.f1 x.f2 x.f3 x.f4 x.f5 = some (if rightB 1000 x = true then 0 else 91) := by
  obtain ⟨k, hk⟩ := (right_ev 1000 x (Nat.le_refl _) hb).rounds
  refine ⟨k, ?_⟩
  unfold caliperref09_Check.f
  have e : ((1000 : Nat) : Int) = 1000 := rfl
  rw [e] at hk
  rw [hk]
  simp only [Option.bind_some]
  split <;> rfl
end Go.Proofs.Ytbgfobdlnlkfiaa.A
/- What Compile makes may be, by nfa.Check. -/
namespace Go.Proofs.Ytbgfobdlnlkfiaa.A
open Go.RowKit Go.Proofs.YtbgfobdlnlkfiaaW.PrintWords Go.Proofs.YtbgfobdlnlkfiaaW.PrintLast Go.Proofs.YtbgfobdlnlkfiaaW.PrintMore
attribute [local go_sem] max2_int min2_int max_two min_two max_three min_three max_four min_four
set_option linter.unusedVariables false
set_option linter.unusedSimpArgs false

/-- What is compiled may be. -/
theorem state_ok {m : Nat} {s : S38} (h : okS m s) (n : Int) (hn : (m : Int) < n) : stateB s n = true := by
  obtain ⟨⟨a1, a2⟩, ⟨b1, b2⟩, c, d, e, f⟩ := h
  unfold stateB numB
  have k7 : (s.f0 != 7) = true := by rw [bne_iff_ne]; omega
  rw [k7, f]
  by_cases h2 : s.f0 = 2
  · obtain ⟨c1, c2⟩ := c h2
    have := e (by omega)
    simp [h2, this]
    omega
  · have h3 := d h2
    have k2 : (s.f0 == 2) = false := beq_eq_false_iff_ne.2 h2
    rw [k2, h3]
    by_cases h1 : s.f0 = 1
    · simp [h1]; omega
    · have h4 := e h1
      simp [h4, h1]; omega
theorem check_build {n : Nat} {x : S26} (h : rightB n x = true) : checkE (buildF n x [] ++ [⟨7, [], 0, 0⟩]) = 0 := by
  unfold checkE
  rw [if_neg]
  rintro (h0 | h0)
  · simp at h0
  · rw [List.any_eq_true] at h0
    obtain ⟨s, hs, hb⟩ := h0
    have hl : (buildF n x [] ++ [(⟨7, [], 0, 0⟩ : S38)]).length = (buildF n x []).length + 1 := by simp
    rw [hl] at hb
    rcases List.mem_append.1 hs with hs | hs
    · rw [state_ok (okl_build h s hs) _ (by omega)] at hb
      cases hb
    · rw [List.mem_singleton.1 hs] at hb
      have : stateB ⟨7, [], 0, 0⟩ (((buildF n x []).length + 1 : Nat) : Int) = true := by
        simp [stateB, numB, normB, normFrom]
      rw [this] at hb
      cases hb
theorem ok_build {n : Nat} {x : S26} (h : rightB n x = true) : okL (buildF n x [] ++ [⟨7, [], 0, 0⟩]) := by
  intro s hs
  rcases List.mem_append.1 hs with hs | hs
  · have := normB_len (okl_build h s hs).2.2.2.2.2
    omega
  · rw [List.mem_singleton.1 hs]; simp
theorem done_at {n : Nat} {x : S26} (h : rightB n x = true) {i : Nat} (hi : i < (buildF n x []).length + 1) : ((rd_T38 (buildF n x [] ++ [⟨7, [], 0, 0⟩]) (i : Int)).f0 == 7) = decide (i = (buildF n x []).length) := by
  rcases Nat.lt_or_ge i (buildF n x []).length with hl | hl
  · have e : rd_T38 (buildF n x [] ++ [⟨7, [], 0, 0⟩]) (i : Int) = (buildF n x [])[i] := by simp [rd_T38, hl, List.getElem?_append_left]
    rw [e, decide_eq_false (by omega)]
    have := (okl_build h _ (List.getElem_mem hl)).1.2
    rw [beq_eq_false_iff_ne]
    omega
  · have hq : i = (buildF n x []).length := by omega
    subst hq
    have e : rd_T38 (buildF n x [] ++ [⟨7, [], 0, 0⟩]) ((buildF n x []).length : Int) = ⟨7, [], 0, 0⟩ := by simp [rd_T38]
    rw [e]
    simp
end Go.Proofs.Ytbgfobdlnlkfiaa.A
/- How the law's arguments read: a tree, ranges, states, as the values' own types; and how large their slices may be. -/
namespace Go.Proofs.Ytbgfobdlnlkfiaa.A
open Go.RowKit Go.Proofs.YtbgfobdlnlkfiaaW.PrintWords Go.Proofs.YtbgfobdlnlkfiaaW.PrintLast Go.Proofs.YtbgfobdlnlkfiaaW.PrintMore
attribute [local go_sem] max2_int min2_int max_two min_two max_three min_three max_four min_four
set_option linter.unusedVariables false
set_option linter.unusedSimpArgs false

def okw (l : List Nat) : Prop := l.all (· ≤ reachBytes) = true
theorem okw_cons {a : Nat} {l : List Nat} (h : okw (a :: l)) : a ≤ reachBytes ∧ okw l := by simpa [okw] using h
theorem okw_app {a b : List Nat} (h : okw (a ++ b)) : okw a ∧ okw b := by simpa [okw, List.all_append] using h
theorem okw_all {H : Type} {P : Program} {e : TypeId} : ∀ {l : List (DataW H)} {i : Nat} {d : DataW H}, okw (DataW.weightsAll P e l) → l[i]? = some d → okw (d.weights P e)
  | [], i, d, _, h => by simp at h
  | a :: l, 0, d, hw, h => by
    simp only [List.getElem?_cons_zero, Option.some.injEq] at h
    subst h
    unfold DataW.weightsAll at hw
    exact (okw_app hw).1
  | a :: l, i + 1, d, hw, h => by
    unfold DataW.weightsAll at hw
    exact okw_all (okw_app hw).2 (by simpa using h)
theorem list_of {α : Type} (R : Nat → α → Prop) : ∀ n, (∀ i, i < n → ∃ y, R i y) → ∃ xs : List α, xs.length = n ∧ ∀ (i : Nat) (y : α), xs[i]? = some y → R i y
  | 0, _ => ⟨[], rfl, fun i y h => by simp at h⟩
  | n + 1, h => by
    obtain ⟨xs, hl, hx⟩ := list_of R n (fun i hi => h i (by omega))
    obtain ⟨y, hy⟩ := h n (by omega)
    refine ⟨xs ++ [y], by simp [hl], fun i z hz => ?_⟩
    rcases Nat.lt_or_ge i xs.length with hi | hi
    · rw [List.getElem?_append_left hi] at hz; exact hx i z hz
    · rw [List.getElem?_append_right hi] at hz
      have h0 : i - xs.length = 0 := by
        rcases Nat.eq_zero_or_pos (i - xs.length) with h0 | h0
        · exact h0
        · rw [List.getElem?_eq_none (by simp; omega)] at hz; cases hz
      rw [h0] at hz
      simp only [List.getElem?_cons_zero, Option.some.injEq] at hz
      subst hz
      rw [show i = n by omega]
      exact hy
section
variable {H : Type} {enc : TypeId × Value → H} {P : Program} {w : World}
theorem opens_slice {α : Type} {d : Kd α} {t e : TypeId} {n : Nat} (B : α → Prop) (hu : P.underlying t = some (.slice e)) (hc : P.cellsOf e = d.sz)
    (hE : ∀ m, m < n → ∀ cs x, DataW.trod enc P w 0 (fun _ => true) true m e cs = some x → okw (x.1.weights P e) → ∃ y, d.K w y cs ∧ B y) {cs : List Value} {x : DataW H × List MemPlace}
    (h : DataW.trod enc P w 0 (fun _ => true) true n t cs = some x) (hw : okw (x.1.weights P t)) :
    ∃ (A : Option Addr) (c : Nat) (xs : List α), cs = [.slice A xs.length c] ∧ xs.length ≤ c ∧ d.C w A xs.length xs ∧ c * P.bytesOf e ≤ reachBytes ∧ ∀ y ∈ xs, B y := by
  rcases DataW.trod_slice hu h with ⟨rfl, rfl⟩ | ⟨a, len, cap, elems, rest, m, rfl, rfl, rfl, hb, hl, hm, hlen, hel, hsp, _⟩
  · exact ⟨none, 0, [], rfl, Nat.le_refl _, Kd.C_nil _ _, by simp, fun y hy => by simp at hy⟩
  · obtain ⟨hr, _⟩ := hsp rfl
    unfold DataW.weights at hw
    rw [hu] at hw
    simp only [List.length_map] at hw
    obtain ⟨h1, h2⟩ := okw_cons hw
    obtain ⟨h3, _⟩ := okw_app h2
    have hcap : cap * P.bytesOf e ≤ reachBytes := by rw [hlen, hr, show len + (cap - len) = cap by omega] at h1; exact h1
    obtain ⟨xs, hxl, hxs⟩ := list_of (fun i y => ∃ cs, w.cells? 0 (a.add (i * d.sz)) d.sz = some cs ∧ d.K w y cs ∧ B y) len (fun i hi => by
      have hq := hel i hi
      rw [List.getElem?_eq_getElem (by omega), hc] at hq
      obtain ⟨cs', hcs, hq2⟩ := Option.bind_eq_some_iff.1 hq
      obtain ⟨y, hy, hB⟩ := hE m (by omega) cs' _ hq2 (okw_all (i := i) h3 (by rw [List.getElem?_map, List.getElem?_eq_getElem (by omega)]; rfl))
      exact ⟨y, cs', hcs, hy, hB⟩)
    refine ⟨some a, cap, xs, by rw [hxl], by omega, ⟨rfl, by unfold maxLen at hm; omega, fun _ => ⟨a, rfl, fun j p hj => ?_⟩⟩, hcap, fun y hy => ?_⟩
    · obtain ⟨cs', hcs, hk, _⟩ := hxs j p hj
      obtain ⟨_, hln, hce⟩ := World.cells?_some hcs
      refine ⟨cs', hln, hk, fun i u hi => ?_⟩
      have hlt := (List.getElem?_eq_some_iff.1 hi).1
      have := hce i (by omega)
      rw [hi] at this
      rw [← this, add_add]
    · obtain ⟨i, hi, rfl⟩ := List.getElem_of_mem hy
      obtain ⟨_, _, _, hB⟩ := hxs i _ (List.getElem?_eq_getElem hi)
      exact hB
end
section
variable {H : Type} {enc : TypeId × Value → H} {w : World}
theorem list2 {α : Type} {l : List α} (h : l.length = 2) : ∃ a b, l = [a, b] := by
  rcases l with _ | ⟨a, _ | ⟨b, _ | ⟨c, l⟩⟩⟩ <;> simp at h
  exact ⟨a, b, rfl⟩
theorem list6 {α : Type} {l : List α} (h : l.length = 6) : ∃ a b c d e f, l = [a, b, c, d, e, f] := by
  rcases l with _ | ⟨a, _ | ⟨b, _ | ⟨c, _ | ⟨d, _ | ⟨e, _ | ⟨f, _ | ⟨g, l⟩⟩⟩⟩⟩⟩⟩ <;> simp at h
  exact ⟨a, b, c, d, e, f, rfl⟩
theorem opens54 {n : Nat} {cs : List Value} {x : DataW H × List MemPlace} (h : DataW.trod enc Try.prog w 0 (fun _ => true) true n 54 cs = some x) : ∃ y : S54, k54.K w y cs := by
  obtain ⟨xs, m, rfl, rfl, hl, hxl, hf⟩ := DataW.trod_struct Try.underlying54 h
  have c3 : Try.prog.cellsOf 3 = 1 := by kernel_rfl
  have c54 : Try.prog.cellsOf 54 = 2 := by kernel_rfl
  rw [c54] at hl
  obtain ⟨u0, u1, rfl⟩ := list2 hl
  have f0 := hf 0 _ rfl
  have f1 := hf 1 _ rfl
  have hx2 : xs.length = 2 := hxl
  simp only [List.getElem_toArray, List.getElem_cons_zero, List.getElem_cons_succ, c3, List.drop_zero, List.take_succ_cons, List.take_zero, List.drop_succ_cons] at f0 f1
  rw [List.getElem?_eq_getElem (by omega)] at f0 f1
  obtain ⟨n0, e0, _⟩ := DataW.trod_int Try.underlying3 f0
  obtain ⟨n1, e1, _⟩ := DataW.trod_int Try.underlying3 f1
  simp only [List.cons.injEq, and_true] at e0 e1
  subst e0
  subst e1
  exact ⟨⟨n0, n1⟩, k54_mk w ⟨n0, n1⟩⟩
set_option maxRecDepth 100000 in
theorem opens26 : ∀ (n : Nat) (cs : List Value) (x : DataW H × List MemPlace), DataW.trod enc Try.prog w 0 (fun _ => true) true n 26 cs = some x → okw (x.1.weights Try.prog 26) → ∃ y : S26, k26.K w y cs ∧ ∀ k, bnd k y := by
  intro n
  induction n using Nat.strongRecOn with
  | ind n ih =>
    intro cs x h hw
    obtain ⟨xs, m, rfl, rfl, hl, hxl, hf⟩ := DataW.trod_struct Try.underlying26 h
    have c3 : Try.prog.cellsOf 3 = 1 := by kernel_rfl
    have c22 : Try.prog.cellsOf 22 = 1 := by kernel_rfl
    have c23 : Try.prog.cellsOf 23 = 1 := by kernel_rfl
    have c24 : Try.prog.cellsOf 24 = 1 := by kernel_rfl
    have c4 : Try.prog.cellsOf 4 = 1 := by kernel_rfl
    have c26 : Try.prog.cellsOf 26 = 6 := by kernel_rfl
    have c54 : Try.prog.cellsOf 54 = 2 := by kernel_rfl
    have b54 : Try.prog.bytesOf 54 = 16 := by kernel_rfl
    have b26 : Try.prog.bytesOf 26 = 80 := by kernel_rfl
    rw [c26] at hl
    obtain ⟨u0, u1, u2, u3, u4, u5, rfl⟩ := list6 hl
    have hx6 : xs.length = 6 := hxl
    obtain ⟨x0, x1, x2, x3, x4, x5, rfl⟩ := list6 hx6
    have f0 := hf 0 _ rfl
    have f1 := hf 1 _ rfl
    have f2 := hf 2 _ rfl
    have f3 := hf 3 _ rfl
    have f4 := hf 4 _ rfl
    have f5 := hf 5 _ rfl
    simp only [List.getElem_toArray, List.getElem_cons_zero, List.getElem_cons_succ, c3, c22, c23, c24, c4, List.drop_zero, List.take_succ_cons, List.take_zero, List.drop_succ_cons, List.getElem?_cons_zero, List.getElem?_cons_succ] at f0 f1 f2 f3 f4 f5
    unfold DataW.weights at hw
    rw [Try.underlying26] at hw
    simp only [List.map_cons, List.map_nil, DataW.weightsEach] at hw
    rw [List.append_nil] at hw
    have w1 := (okw_app (okw_app hw).2).1
    have w5 := (okw_app (okw_app (okw_app (okw_app (okw_app hw).2).2).2).2).2
    obtain ⟨n0, e0, _⟩ := DataW.trod_int Try.underlying22 f0
    obtain ⟨n2, e2, _⟩ := DataW.trod_int Try.underlying3 f2
    obtain ⟨n3, e3, _⟩ := DataW.trod_int Try.underlying3 f3
    obtain ⟨n4, e4, _⟩ := DataW.trod_bool Try.underlying4 f4
    obtain ⟨A1, k1, l1, e1, hk1, g1, b1, _⟩ := opens_slice (d := k54) (fun _ => True) Try.underlying23 c54 (fun m _ cs x hx _ => by obtain ⟨y, hy⟩ := opens54 hx; exact ⟨y, hy, trivial⟩) f1 w1
    obtain ⟨A5, k5, l5, e5, hk5, g5, b5, hB5⟩ := opens_slice (d := k26) (fun y => ∀ k, bnd k y) Try.underlying24 c26 (fun m' hm' cs x hx hw => ih m' (by omega) cs x hx hw) f5 w5
    simp only [List.cons.injEq, and_true] at e0 e1 e2 e3 e4 e5
    subst e0 e1 e2 e3 e4 e5
    refine ⟨⟨n0, l1, n2, n3, n4, l5⟩, k26_mk w ⟨n0, l1, n2, n3, n4, l5⟩ hk1 g1 hk5 g5, fun k => ?_⟩
    cases k with
    | zero => trivial
    | succ k =>
      rw [b54] at b1
      rw [b26] at b5
      have hrb : reachBytes = 140737488351232 := by decide
      exact ⟨by show l1.length * 16 ≤ _; omega, by show l5.length * 80 ≤ _; omega, fun y hy => hB5 y hy k⟩
theorem okw_of {P : Program} {ts : List TypeId} {ds : List (DataW H)} (h : (DataW.weightsEach P ts ds).all (· ≤ reachBytes) = true) {j : Nat} {t : TypeId} {d : DataW H} (ht : ts[j]? = some t) (hd : ds[j]? = some d) : okw (d.weights P t) := by
  unfold okw
  rw [List.all_eq_true]
  exact fun a ha => List.all_eq_true.1 h a (DataW.weights_mem_each ht hd a ha)
set_option maxRecDepth 100000 in
theorem open_rx {base : Nat} {v : Value} {d : DataW H} {p : List MemPlace} (hv : Value.okWide Try.prog w .any base 26 v) (h : DataW.Trod enc Try.prog w 0 (fun _ => true) true 26 v d p) (hw : okw (d.weights Try.prog 26)) :
    ∃ (x : S26) (A1 : Option Addr) (c1 : Nat) (A5 : Option Addr) (c5 : Nat), v = .agg #[.int .i64 x.f0, .slice A1 x.f1.length c1, .int .i64 x.f2, .int .i64 x.f3, .bool x.f4, .slice A5 x.f5.length c5] ∧ x.f1.length ≤ c1 ∧ k54.C w A1 x.f1.length x.f1 ∧ x.f5.length ≤ c5 ∧ k26.C w A5 x.f5.length x.f5 ∧ ∀ k, bnd k x := by
  unfold Value.okWide at hv
  rw [Try.underlying26] at hv
  obtain ⟨cs, rfl, _, _⟩ := hv
  obtain ⟨fuel, hf⟩ := h
  obtain ⟨x, hk, hb⟩ := opens26 fuel _ _ hf hw
  obtain ⟨A1, c1, A5, c5, e, l1, g1, l5, g5⟩ := k26_open hk
  refine ⟨x, A1, c1, A5, c5, ?_, l1, g1, l5, g5, hb⟩
  have e2 : cs.toList = [.int .i64 x.f0, .slice A1 x.f1.length c1, .int .i64 x.f2, .int .i64 x.f3, .bool x.f4, .slice A5 x.f5.length c5] := e
  rw [show cs = ⟨cs.toList⟩ from rfl, e2]
end
end Go.Proofs.Ytbgfobdlnlkfiaa.A
