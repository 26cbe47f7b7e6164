/- The functions of this program, walked by the evaluator: part zr, 1. -/
import Derived.Test.YtmiclkgkfkcnoaaLD
namespace Go.Proofs.Ytmiclkgkfkcnoaa
open Go.RowKit
set_option linter.unusedSimpArgs false
set_option linter.unusedVariables false
set_option maxRecDepth 100000
set_option linter.defProp false
namespace GLzr1
def gx := And.intro (@hopRow.eq_1) (And.intro (@polRow.eq_1) (And.intro (@segRow.eq_1) (And.intro (@intRow.eq_1) (And.intro (@rowLen_ints) (And.intro (@rowLen_nil) (And.intro (@rowLen_cons) (And.intro (@rowLen_append) (And.intro (@lenL_app) (And.intro (@byteRow.eq_1) (And.intro (@rowLen_bytes) (And.intro (@bytesOf_map) (And.intro (@bytesOf_cons) (And.intro (@bytesOf_one) (And.intro (@rowLen_strs) (And.intro (@asRow.eq_1) (And.intro (@lkRow.eq_1) (And.intro (@tpRow.eq_1) (And.intro (@rowLen_hops) (And.intro (@rowLen_ases) (And.intro (@rowLen_links) (And.intro (@bcRow.eq_1) (And.intro (@rowLen_bcs) (@u8Row.eq_1)))))))))))))))))))))))
end GLzr1
open GLzr1
-- (19)
def posB (g : Bc) : List Bc → Nat
  | [] => 0
  | x :: l => if prefB g x = true then 0 else posB g l + 1
theorem posB_le (g : Bc) : ∀ l : List Bc, posB g l ≤ l.length
  | [] => Nat.le_refl _
  | x :: l => by
    rw [posB]
    split
    · omega
    · have := posB_le g l
      simp only [List.length_cons]; omega
theorem posB_at {g : Bc} : ∀ {l : List Bc} {k : Nat}, (∀ j (h : j < k) (h' : j < l.length), prefB g l[j] = false) → (h : k < l.length) → prefB g l[k] = true → posB g l = k
  | [], _, _, h, _ => by simp at h
  | x :: l, 0, _, _, h1 => by
    have h2 : prefB g x = true := h1
    rw [posB, if_pos h2]
  | x :: l, k + 1, h0, h, h1 => by
    have e0 : prefB g x = false := h0 0 (by omega) (by simp)
    rw [posB, if_neg (by rw [e0]; simp), posB_at (l := l) (k := k) (fun j h2 h3 => h0 (j + 1) (by omega) (by simp; omega)) (by simpa using h) h1]
theorem posB_end {g : Bc} : ∀ {l : List Bc}, (∀ j (h' : j < l.length), prefB g l[j] = false) → posB g l = l.length
  | [], _ => rfl
  | x :: l, h0 => by
    have e0 : prefB g x = false := h0 0 (by simp)
    rw [posB, if_neg (by rw [e0]; simp), posB_end (l := l) (fun j h3 => h0 (j + 1) (by simp; omega))]; rfl
def putB (l : List Bc) (g : Bc) : List Bc := l.take (posB g l) ++ [g] ++ l.drop (posB g l)
def cut12 (l : List Bc) : List Bc := if 12 < l.length then l.take (l.length - 1) else l
def storeB (t : Tp) (r : Int) (l : List Bc) (g : Bc) : List Bc := if (canExt t g.seg r g.ing && !hasB l g) = true then cut12 (putB l g) else l
theorem putB_len (l : List Bc) (g : Bc) : (putB l g).length = l.length + 1 := by
  have := posB_le g l
  simp only [putB, List.length_append, List.length_take, List.length_drop, List.length_cons, List.length_nil]; omega
theorem putB_perm (l : List Bc) (g : Bc) : (putB l g).Perm (g :: l) := by
  have h1 : (l.take (posB g l) ++ [g] ++ l.drop (posB g l)).Perm (([g] ++ l.take (posB g l)) ++ l.drop (posB g l)) := List.Perm.append_right _ List.perm_append_comm
  rw [List.append_assoc [g], List.take_append_drop] at h1
  exact h1
theorem cut12_sub (l : List Bc) : (cut12 l).Sublist l := by
  unfold cut12
  split
  · exact List.take_sublist _ _
  · exact List.Sublist.refl _
theorem cut12_len (l : List Bc) : (cut12 l).length = if 12 < l.length then l.length - 1 else l.length := by
  unfold cut12
  split
  · rw [List.length_take]; omega
  · rfl
theorem storeB_len (t : Tp) (r : Int) (l : List Bc) (g : Bc) : (storeB t r l g).length ≤ l.length + 1 := by
  unfold storeB
  split
  · have := (cut12_sub (putB l g)).length_le
    rw [putB_len] at this; exact this
  · omega
theorem storeB_mem {t : Tp} {r : Int} {l : List Bc} {g x : Bc} (h : x ∈ storeB t r l g) : x = g ∨ x ∈ l := by
  unfold storeB at h
  split at h
  · have := (putB_perm l g).mem_iff.1 ((cut12_sub _).subset h)
    simpa using this
  · exact .inr h
theorem storeB_ok {t : Tp} {r : Int} {l : List Bc} {g : Bc} (h : validStore t r l = true) : validStore t r (storeB t r l g) = true ∧ l.length ≤ (storeB t r l g).length ∧ (storeB t r l g).length ≤ l.length + 1 := by
  refine ⟨?_, ?_, storeB_len t r l g⟩
  · have h0 := h
    rw [validStore_iff] at h
    obtain ⟨h1, h2, h3⟩ := h
    unfold storeB
    split
    · rename_i c
      rw [Bool.and_eq_true, Bool.not_eq_true', hasB_no] at c
      rw [validStore_iff]
      refine ⟨?_, ?_, ?_⟩
      · rw [cut12_len, putB_len]; split <;> omega
      · intro b hb
        have := (putB_perm l g).mem_iff.1 ((cut12_sub _).subset hb)
        rcases List.mem_cons.1 this with e | e
        · rw [e]; exact c.1
        · exact h2 b e
      · exact ((putB_perm l g).nodup_iff.2 (List.nodup_cons.2 ⟨c.2, h3⟩)).sublist (cut12_sub _)
    · exact h0
  · have h1 := ((validStore_iff t r l).1 h).1
    unfold storeB
    split
    · rw [cut12_len, putB_len]; split <;> omega
    · omega
theorem storeB_has {t : Tp} {r : Int} {l : List Bc} {g : Bc} (hc : canExt t g.seg r g.ing = true) (hl : l.length < 12) : hasB (storeB t r l g) g = true := by
  rw [storeB, hc, Bool.true_and]
  split
  · rename_i c
    rw [cut12, if_neg (by rw [putB_len]; omega), hasB_iff, (putB_perm l g).mem_iff]
    exact List.mem_cons_self ..
  · rename_i c
    simpa using c
theorem storeB_szB {t : Tp} {r : Int} {l : List Bc} {g : Bc} {m : Nat} (h1 : ∀ b ∈ l, b.seg.hops.length ≤ m) (h2 : g.seg.hops.length ≤ m) : ∀ b ∈ storeB t r l g, b.seg.hops.length ≤ m := by
  intro b hb
  rcases storeB_mem hb with e | e
  · rw [e]; exact h2
  · exact h1 b e
theorem prefB_irr (a : Bc) : prefB a a = false := by
  unfold prefB
  generalize digest (segIds a.seg) = d1
  simp
theorem bneI_symm {x y : Int} (h : (x != y) = true) : (y != x) = true := by
  rw [bne_iff_ne] at *; exact Ne.symm h
theorem prefB_asym {a b : Bc} (h : prefB a b = true) : prefB b a = false := by
  unfold prefB at *
  generalize digest (segIds a.seg) = d1 at *
  generalize digest (segIds b.seg) = d2 at *
  split at h
  · rename_i c
    rw [if_pos (bneI_symm c)]
    rw [decide_eq_true_eq] at h
    exact decide_eq_false (by omega)
  · rename_i c
    have c' : (a.seg.hops.length : Int) = b.seg.hops.length := by simpa using c
    rw [if_neg (by simp [c'])]
    split at h
    · rename_i d
      rw [if_pos (bneI_symm d)]
      rw [decide_eq_true_eq] at h
      exact decide_eq_false (by omega)
    · rename_i d
      have d' : a.seg.ts = b.seg.ts := by simpa using d
      rw [if_neg (by simp [d'])]
      split at h
      · rename_i e
        rw [if_pos (bneI_symm e)]
        rw [decide_eq_true_eq] at h
        exact decide_eq_false (by omega)
      · rename_i e
        have e' : d1 = d2 := by simpa using e
        rw [if_neg (by simp [e'])]
        rw [decide_eq_true_eq] at h
        exact decide_eq_false (by omega)

end Go.Proofs.Ytmiclkgkfkcnoaa
