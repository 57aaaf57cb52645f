/- Plain lemmas of this session: what a function with a number of rounds comes to, once the rounds suffice. No program in sight. -/
import Derived.Test.YtlmiiijjjcddkaaGreatDoorWWords
namespace Go.Proofs.YtlmiiijjjcddkaaGreatDoorL
open Go.RowKit Go.Proofs.YtlmiiijjjcddkaaGreatDoorW.PrintWords
set_option linter.unusedVariables false
set_option linter.unusedSimpArgs false

def Mono {α : Type} (g : Nat → Option α) : Prop := ∀ k, LeO (g k) (g (k + 1))
open Classical in
noncomputable def lim {α : Type} (g : Nat → Option α) : Option α := if h : ∃ k r, g k = some r then g h.choose else none

theorem lim_some {α : Type} {g : Nat → Option α} {r : α} (h : lim g = some r) : ∃ k, g k = some r := by
  unfold lim at h
  split at h
  · exact ⟨_, h⟩
  · cases h
theorem lim_of {α : Type} {g : Nat → Option α} (hg : Mono g) {k : Nat} {r : α} (h : g k = some r) : lim g = some r := by
  unfold lim
  have hex : ∃ k r, g k = some r := ⟨k, r, h⟩
  rw [dif_pos hex]
  obtain ⟨q, hq⟩ := hex.choose_spec
  have h1 := at_rounds hg (Nat.le_max_left k hex.choose) h
  have h2 := at_rounds hg (Nat.le_max_right k hex.choose) hq
  rw [hq, ← h2, h1]
theorem lim_ext {α : Type} {g f : Nat → Option α} (hg : Mono g) (hf : Mono f) (h : ∀ r, (∃ k, g k = some r) ↔ (∃ k, f k = some r)) : lim g = lim f := by
  cases e : lim g with
  | some r =>
    obtain ⟨k, hk⟩ := (h r).1 (lim_some e)
    exact (lim_of hf hk).symm
  | none =>
    cases e' : lim f with
    | none => rfl
    | some r =>
      obtain ⟨k, hk⟩ := (h r).2 (lim_some e')
      rw [lim_of hg hk] at e
      cases e
theorem Mono.shift {α : Type} {g : Nat → Option α} (hg : Mono g) : Mono (fun k => g (k + 1)) := fun k => hg (k + 1)
theorem Mono.const {α : Type} (a : Option α) : Mono (fun _ => a) := fun _ => LeO.refl _
theorem Mono.ite {α : Type} {c : Prop} [Decidable c] {g f : Nat → Option α} (hg : Mono g) (hf : Mono f) : Mono (fun k => if c then g k else f k) := fun k => LeO.ite (hg k) (hf k)
theorem Mono.bind {α β : Type} {g : Nat → Option α} {f : Nat → α → Option β} (hg : Mono g) (hf : ∀ a, Mono (fun k => f k a)) : Mono (fun k => (g k).bind (f k)) := fun k => LeO.bind (hg k) (fun a => hf a k)
theorem lim_const {α : Type} (a : Option α) : lim (fun _ => a) = a := by
  cases a with
  | some r => exact lim_of (Mono.const _) (k := 0) rfl
  | none =>
    cases e : lim (fun _ => (none : Option α)) with
    | none => rfl
    | some r => obtain ⟨k, hk⟩ := lim_some e; cases hk
theorem lim_step {α : Type} {g : Nat → Option α} (hg : Mono g) : lim g = lim (fun k => g (k + 1)) :=
  lim_ext hg hg.shift (fun r => ⟨fun ⟨k, hk⟩ => ⟨k, hg k r hk⟩, fun ⟨k, hk⟩ => ⟨k + 1, hk⟩⟩)
theorem lim_ite {α : Type} {c : Prop} [Decidable c] (g f : Nat → Option α) : lim (fun k => if c then g k else f k) = if c then lim g else lim f := by
  by_cases h : c
  · simp only [if_pos h]
  · simp only [if_neg h]
theorem lim_bind {α β : Type} {g : Nat → Option α} {f : Nat → α → Option β} (hg : Mono g) (hf : ∀ a, Mono (fun k => f k a)) : lim (fun k => (g k).bind (f k)) = (lim g).bind (fun a => lim (fun k => f k a)) := by
  cases e : lim g with
  | some a =>
    obtain ⟨k0, hk0⟩ := lim_some e
    refine lim_ext (Mono.bind hg hf) (hf a) (fun r => ⟨?_, ?_⟩)
    · rintro ⟨k, hk⟩
      obtain ⟨x, hx, hfx⟩ := Option.bind_eq_some_iff.1 hk
      have : x = a := Option.some.inj ((lim_of hg hx).symm.trans e)
      subst this
      exact ⟨k, hfx⟩
    · rintro ⟨k, hk⟩
      refine ⟨max k0 k, Option.bind_eq_some_iff.2 ⟨a, at_rounds hg (Nat.le_max_left _ _) hk0, at_rounds (hf a) (Nat.le_max_right _ _) hk⟩⟩
  | none =>
    cases e' : lim (fun k => (g k).bind (f k)) with
    | none => rfl
    | some r =>
      obtain ⟨k, hk⟩ := lim_some e'
      obtain ⟨x, hx, _⟩ := Option.bind_eq_some_iff.1 hk
      rw [lim_of hg hx] at e
      cases e
theorem lim_bind_const {α β : Type} (a : Option α) (f : Nat → α → Option β) : lim (fun k => a.bind (f k)) = a.bind (fun x => lim (fun k => f k x)) := by
  cases a with
  | some x => rfl
  | none => exact lim_const _
/-- One step: what a function with rounds comes to. -/
theorem lim_eq {α : Type} {g f : Nat → Option α} (hg : Mono g) (h : ∀ k, g (k + 1) = f k) : lim g = lim f := by
  rw [lim_step hg]
  exact congrArg lim (funext h)
theorem lim_ite_to {α : Type} {c : Prop} [Decidable c] {g f : Nat → Option α} {a b : Option α} (hg : lim g = a) (hf : lim f = b) : lim (fun k => if c then g k else f k) = if c then a else b := by
  rw [lim_ite, hg, hf]
theorem lim_bind_to {α β : Type} {g : Nat → Option α} {f : Nat → α → Option β} {f' : α → Option β} (hg : Mono g) (hf : ∀ a, Mono (fun k => f k a)) (h : ∀ a, lim (fun k => f k a) = f' a) : lim (fun k => (g k).bind (f k)) = (lim g).bind f' := by
  rw [lim_bind hg hf]
  exact congrArg _ (funext h)
theorem lim_bindc_to {α β : Type} {a : Option α} {f : Nat → α → Option β} {f' : α → Option β} (h : ∀ a, lim (fun k => f k a) = f' a) : lim (fun k => a.bind (f k)) = a.bind f' := by
  rw [lim_bind_const]
  exact congrArg _ (funext h)
end Go.Proofs.YtlmiiijjjcddkaaGreatDoorL
