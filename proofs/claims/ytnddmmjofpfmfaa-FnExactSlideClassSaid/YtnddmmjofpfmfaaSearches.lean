/- Plain laws of this session on a search of all words that slides make: the list of those that are found, the row of their places in order, and where a new one goes. No program in sight. -/
import Derived.Test.YtnddmmjofpfmfaaClasses
import Derived.Test.YtnddmmjofpfmfaaMoves
namespace Go.Proofs.YtnddmmjofpfmfaaL
open Go.RowKit Go.Proofs.YtnddmmjofpfmfaaW.PrintWords
set_option linter.unusedVariables false
set_option linter.unusedSimpArgs false

def rdR (all : List (List Int)) (i : Int) : List Int := all.getD i.toNat []
theorem rdR_lt (all : List (List Int)) (i : Nat) (h : i < all.length) : rdR all (i : Int) = all[i] := by
  unfold rdR; rw [Int.toNat_natCast, List.getD_eq_getElem?_getD, List.getElem?_eq_getElem h]; rfl
theorem rdR_mem (all : List (List Int)) (i : Nat) (h : i < all.length) : rdR all (i : Int) ∈ all := by
  rw [rdR_lt all i h]; exact List.getElem_mem h
theorem rdR_mem' {all : List (List Int)} {o : Int} (h : 0 ≤ o ∧ o < (all.length : Int)) : rdR all o ∈ all := by
  obtain ⟨k, rfl⟩ := Int.eq_ofNat_of_zero_le h.1
  exact rdR_mem all k (by omega)
theorem rdR_app (all : List (List Int)) (y : List Int) {o : Int} (h : 0 ≤ o ∧ o < (all.length : Int)) : rdR (all ++ [y]) o = rdR all o := by
  obtain ⟨k, rfl⟩ := Int.eq_ofNat_of_zero_le h.1
  rw [rdR_lt all k (by omega), rdR_lt _ k (by simp; omega), List.getElem_append_left (by omega)]
theorem rdR_last (all : List (List Int)) (y : List Int) : rdR (all ++ [y]) (all.length : Int) = y := by
  rw [rdR_lt _ _ (by simp), List.getElem_append_right (Nat.le_refl _)]; simp
theorem slide_at (u v : List Int) (a b : Int) : rd (u ++ a :: b :: v) (u.length : Int) = a ∧ rd (u ++ a :: b :: v) ((u.length : Int) + 1) = b ∧ slideL (u ++ a :: b :: v) (u.length : Int) = u ++ b :: a :: v := by
  have e1 : rd (u ++ a :: b :: v) (u.length : Int) = a := by rw [rd_lt _ _ (by simp)]; simp
  have e2 : rd (u ++ a :: b :: v) ((u.length : Int) + 1) = b := by
    rw [show ((u.length : Int) + 1) = ((u.length + 1 : Nat) : Int) by omega, rd_lt _ _ (by simp), List.getElem_append_right (by omega)]; simp
  refine ⟨e1, e2, ?_⟩
  unfold slideL swp
  rw [Int.toNat_natCast, show ((u.length + 1 : Nat) : Int) = (u.length : Int) + 1 by omega, e1, e2]
  simp
theorem Sl.slide {x y : List Int} (h : Sl x y) : ∃ a : Nat, slideC x (a : Int) = true ∧ slideL x (a : Int) = y := by
  obtain ⟨u, a, b, v, rfl, rfl, h⟩ := h
  obtain ⟨e1, e2, e3⟩ := slide_at u v a b
  refine ⟨u.length, ?_, e3⟩
  unfold slideC
  rw [e1, e2]
  unfold farI at h
  simp at h
  exact decide_eq_true ⟨by omega, by simp; omega, by omega⟩
theorem slide_Sl {x : List Int} {a : Nat} (h : slideC x (a : Int) = true) : Sl x (slideL x (a : Int)) := by
  have h1 := of_decide_eq_true h
  have e : x = x.take a ++ rd x (a : Int) :: rd x ((a + 1 : Nat) : Int) :: x.drop (a + 2) := by
    rw [← drop_rd x (a + 1) (by omega), ← drop_rd x a (by omega), List.take_append_drop]
  have hl : (x.take a).length = a := by rw [List.length_take]; omega
  refine ⟨x.take a, rd x (a : Int), rd x ((a + 1 : Nat) : Int), x.drop (a + 2), e, ?_, ?_⟩
  · have := (slide_at (x.take a) (x.drop (a + 2)) (rd x (a : Int)) (rd x ((a + 1 : Nat) : Int))).2.2
    rw [hl, ← e] at this
    exact this
  · unfold farI
    have h2 := h1.2.2
    rw [show (a : Int) + 1 = ((a + 1 : Nat) : Int) by omega] at h2
    simp only [Bool.or_eq_true, decide_eq_true_eq]
    omega
structure SInv (l : List Int) (all : List (List Int)) (order : List Int) : Prop where
  len : order.length = all.length
  ran : ∀ o ∈ order, 0 ≤ o ∧ o < (all.length : Int)
  cov : ∀ i : Nat, i < all.length → (i : Int) ∈ order
  srt : SortL (order.map (rdR all))
  rch : ∀ x ∈ all, Rch l x
  self : l ∈ all
theorem SInv.start (l : List Int) : SInv l [l] [0] :=
  ⟨rfl, fun o ho => by simp at ho; subst ho; simp, fun i hi => by simp at hi; subst hi; simp, by unfold SortL; exact List.pairwise_singleton _ _, fun x hx => by simp at hx; subst hx; exact .refl, by simp⟩
theorem SInv.mem {l : List Int} {all : List (List Int)} {order : List Int} (h : SInv l all order) (x : List Int) : x ∈ order.map (rdR all) ↔ x ∈ all := by
  rw [List.mem_map]
  constructor
  · rintro ⟨o, ho, rfl⟩
    exact rdR_mem' (h.ran o ho)
  · intro hx
    obtain ⟨i, hi, e⟩ := List.getElem_of_mem hx
    exact ⟨(i : Int), h.cov i hi, by rw [rdR_lt all i hi]; exact e⟩
theorem SInv.lt {l : List Int} {all : List (List Int)} {order : List Int} (h : SInv l all order) (i j : Nat) (hij : i < j) (hj : j < order.length) : lexL (rdR all (rd order (i : Int))) (rdR all (rd order (j : Int))) = true := by
  have := List.pairwise_iff_getElem.1 h.srt i j (by rw [List.length_map]; omega) (by rw [List.length_map]; omega) hij
  rw [List.getElem_map, List.getElem_map] at this
  rw [rd_lt order i (by omega), rd_lt order j hj]
  exact this
theorem SInv.few {l : List Int} {all : List (List Int)} {order : List Int} (h : SInv l all order) (hl : ∀ z ∈ l, 0 ≤ z ∧ z ≤ 6) : all.length ≤ (exts l.length l).length := by
  have := sub_length (order.map (rdR all)) (exts l.length l) h.srt.nodup (fun x hx => (exts_iff l x hl).2 (h.rch x ((h.mem x).1 hx)))
  rw [List.length_map, h.len] at this
  exact this
/-- All slides of the first K words are found. -/
def Clo (all : List (List Int)) (K : Nat) : Prop := ∀ k : Nat, k < K → ∀ a : Nat, slideC (rdR all (k : Int)) (a : Int) = true → slideL (rdR all (k : Int)) (a : Int) ∈ all
/-- All slides of a word up to a place are found. -/
def Cla (all : List (List Int)) (k A : Nat) : Prop := ∀ a : Nat, a < A → slideC (rdR all (k : Int)) (a : Int) = true → slideL (rdR all (k : Int)) (a : Int) ∈ all
theorem Clo.more {all : List (List Int)} {K : Nat} (h : Clo all K) (hK : K ≤ all.length) (y : List Int) : Clo (all ++ [y]) K := by
  intro k hk a hc
  rw [rdR_app all y ⟨by omega, by omega⟩] at hc ⊢
  exact List.mem_append_left _ (h k hk a hc)
theorem Cla.more {all : List (List Int)} {k A : Nat} (h : Cla all k A) (hK : k < all.length) (y : List Int) : Cla (all ++ [y]) k A := by
  intro a ha hc
  rw [rdR_app all y ⟨by omega, by omega⟩] at hc ⊢
  exact List.mem_append_left _ (h a ha hc)
theorem Cla.next {all : List (List Int)} {k A : Nat} (h : Cla all k A) (hA : slideC (rdR all (k : Int)) (A : Int) = true → slideL (rdR all (k : Int)) (A : Int) ∈ all) : Cla all k (A + 1) := by
  intro a ha hc
  by_cases e : a = A
  · subst e; exact hA hc
  · exact h a (by omega) hc
theorem Clo.next {all : List (List Int)} {k A : Nat} (h : Clo all k) (h2 : Cla all k A) (hA : (rdR all (k : Int)).length ≤ A) : Clo all (k + 1) := by
  intro q hq a hc
  by_cases e : q = k
  · subst e
    have := (of_decide_eq_true hc).2.1
    exact h2 a (by omega) hc
  · exact h q (by omega) a hc
theorem SInv.done {l : List Int} {all : List (List Int)} {order : List Int} (h : SInv l all order) (hc : Clo all all.length) (hl : ∀ z ∈ l, 0 ≤ z ∧ z ≤ 6) : order.map (rdR all) = exts l.length l := by
  refine sort_ext _ _ h.srt (exts_sort _ _) fun x => ?_
  rw [h.mem, exts_iff l x hl]
  refine ⟨h.rch x, fun hr => ?_⟩
  induction hr with
  | refl => exact h.self
  | step _ hs ih =>
    obtain ⟨i, hi, e⟩ := List.getElem_of_mem ih
    obtain ⟨a, h1, h2⟩ := hs.slide
    have e2 := (rdR_lt all i hi).trans e
    have := hc i hi a (by rw [e2]; exact h1)
    rw [e2, h2] at this
    exact this
theorem SInv.put {l : List Int} {all : List (List Int)} {order : List Int} (h : SInv l all order) (y : List Int) (hy : Rch l y) (p : Nat) (hp : p ≤ order.length) (hA : ∀ i : Nat, i < p → lexL (rdR all (rd order (i : Int))) y = true) (hB : ∀ i : Nat, p ≤ i → i < order.length → lexL y (rdR all (rd order (i : Int))) = true) :
    SInv l (all ++ [y]) (order.take p ++ (all.length : Int) :: order.drop p) := by
  have hm : order.map (rdR (all ++ [y])) = order.map (rdR all) := List.map_congr_left fun o ho => rdR_app all y (h.ran o ho)
  refine ⟨?_, ?_, ?_, ?_, ?_, List.mem_append_left _ h.self⟩
  · have := h.len; simp; omega
  · intro o ho
    have hh : o = (all.length : Int) ∨ o ∈ order := by
      rcases List.mem_append.1 ho with h1 | h1
      · exact .inr (List.mem_of_mem_take h1)
      · rcases List.mem_cons.1 h1 with h2 | h2
        · exact .inl h2
        · exact .inr (List.mem_of_mem_drop h2)
    rcases hh with rfl | h2
    · simp; omega
    · have := h.ran o h2; simp; omega
  · intro i hi
    by_cases e : i = all.length
    · subst e; simp
    · have h1 := h.cov i (by simp at hi; omega)
      rw [← List.take_append_drop p order, List.mem_append] at h1
      rcases h1 with h2 | h2
      · exact List.mem_append_left _ h2
      · exact List.mem_append_right _ (List.mem_cons_of_mem _ h2)
  · have hs := h.srt
    unfold SortL at hs ⊢
    rw [List.map_append, List.map_cons, rdR_last, List.map_take, List.map_drop, hm]
    rw [← List.take_append_drop p (order.map (rdR all)), List.pairwise_append] at hs
    have hlt : ∀ x ∈ (order.map (rdR all)).take p, lexL x y = true := by
      intro x hx
      obtain ⟨i, hi, e⟩ := List.getElem_of_mem hx
      rw [List.length_take] at hi
      have := hA i (by omega)
      rw [List.getElem_take, List.getElem_map] at e
      rw [rd_lt order i (by omega), e] at this
      exact this
    have hgt : ∀ x ∈ (order.map (rdR all)).drop p, lexL y x = true := by
      intro x hx
      obtain ⟨i, hi, e⟩ := List.getElem_of_mem hx
      rw [List.length_drop, List.length_map] at hi
      have := hB (p + i) (by omega) (by omega)
      rw [List.getElem_drop, List.getElem_map] at e
      rw [rd_lt order (p + i) (by omega), e] at this
      exact this
    rw [List.pairwise_append]
    refine ⟨hs.1, List.pairwise_cons.2 ⟨hgt, hs.2.1⟩, fun a ha b hb => ?_⟩
    rcases List.mem_cons.1 hb with rfl | hb
    · exact hlt a ha
    · exact lexL_trans _ _ _ (hlt a ha) (hgt b hb)
  · intro x hx
    rcases List.mem_append.1 hx with h1 | h1
    · exact h.rch x h1
    · rw [List.mem_singleton] at h1; subst h1; exact hy
/-- A place put into a row: the copy to the right and the write. -/
theorem shf_set (x : List Int) (p : Nat) (v : Int) (hp : p ≤ x.length) : (((x ++ [0]).take (p + 1)) ++ ((x ++ [0]).drop p).take ((x ++ [0]).length - (p + 1))).set p v = x.take p ++ v :: x.drop p := by
  have e1 : ((x ++ [0]).drop p).take ((x ++ [0]).length - (p + 1)) = x.drop p := by
    rw [List.drop_append_of_le_length hp, List.length_append, List.length_singleton, List.take_append_of_le_length (by rw [List.length_drop]; omega)]
    rw [List.take_of_length_le (by rw [List.length_drop]; omega)]
  rw [e1, List.take_succ_eq_append_getElem (by simp; omega), List.take_append_of_le_length hp, List.append_assoc, List.set_append_right _ _ (by rw [List.length_take]; omega)]
  rw [List.length_take, Nat.min_eq_left hp, Nat.sub_self]
  rfl
theorem take_take_app {α : Type} (A B : List α) (n : Nat) : (A.take n ++ B).take n = (A ++ B).take n := by
  rcases Nat.le_total A.length n with h | h
  · rw [List.take_of_length_le h]
  · rw [List.take_append_of_le_length (by rw [List.length_take]; omega), List.take_append_of_le_length h, List.take_take, Nat.min_self]
end Go.Proofs.YtnddmmjofpfmfaaL
