/- '==' at a struct of ints. -/
import Derived.Test.YtelolknpcmjdeaaMm
import Derived.ChangeKeysEq
namespace Go.Proofs.Ytelolknpcmjdeaa
open Go.RowKit

/-- the fields are so many ints, side by side, from this place on -/
def intFields (P : Program) : Nat → List Field → Bool
  | _, [] => true
  | k, f :: fs => f.offset == k && f.name != "_" && P.plainKey f.type && (match P.underlying f.type with | some (.int _) => true | _ => false) && intFields P (k + 1) fs
def eqTyB (P : Program) (t : TypeId) (m : Nat) : Bool :=
  (match P.underlying t with | some (.struct _) => true | _ => false) && !P.stoodInHeld t && !P.eqGuardType P.depth t && intFields P 0 (P.fieldsOf t).toList && (P.fieldsOf t).size == m

theorem eqFields_run {P : Program} {w : World} {d : Nat} {xs ys : List Int} (hxy : xs.length = ys.length) : ∀ (fs : List Field) (k : Nat), intFields P k fs = true → k + fs.length = xs.length →
    (Op.eqFields (d + 1) (xs.map (Value.int .i64)).toArray (ys.map (Value.int .i64)).toArray fs).run P w = .ok (decide (xs.drop k = ys.drop k)) w
  | [], k, _, hl => by
    have h1 : xs.drop k = [] := List.drop_eq_nil_of_le (by simp at hl; omega)
    have h2 : ys.drop k = [] := List.drop_eq_nil_of_le (by simp at hl; omega)
    simp [Op.eqFields, h1, h2]
  | f :: fs, k, h, hl => by
    simp only [intFields, Bool.and_eq_true] at h
    obtain ⟨⟨⟨⟨h1, h2⟩, h3⟩, h4⟩, h5⟩ := h
    have hk : k < xs.length := by simp at hl; omega
    have hk' : k < ys.length := by omega
    have ho : f.offset = k := by simpa using h1
    have px : (part f.type (xs.map (Value.int .i64)).toArray f.offset).run P w = .ok (.int .i64 xs[k]) w := run_part_plain w h3 (by simp [ho, hk])
    have py : (part f.type (ys.map (Value.int .i64)).toArray f.offset).run P w = .ok (.int .i64 ys[k]) w := run_part_plain w h3 (by simp [ho, hk'])
    have ih := eqFields_run (w := w) (d := d) hxy fs (k + 1) h5 (by simp at hl; omega)
    have hd : xs.drop k = xs[k] :: xs.drop (k + 1) := List.drop_eq_getElem_cons hk
    have hd' : ys.drop k = ys[k] :: ys.drop (k + 1) := List.drop_eq_getElem_cons hk'
    have hn : f.name ≠ "_" := by simpa using h2
    split at h4
    · rename_i kk hu
      simp only [Op.eqFields, if_pos hn, Sem.run_bind, px, py, Result.andThen_ok, run_equalIn_int w d f.type .i64 kk _ _ hu]
      have hz : decide (xs.drop k = ys.drop k) = (decide (xs[k] = ys[k]) && decide (xs.drop (k + 1) = ys.drop (k + 1))) := by
        rw [hd, hd']; simp only [List.cons.injEq, Bool.decide_and]
      rw [hz]
      by_cases he : xs[k] = ys[k]
      · simp [he, ih]
      · simp [he]
    · cases h4

theorem aggEq_of {P : Program} {t : TypeId} {m : Nat} (h : eqTyB P t m = true) : AggEq P t m := by
  simp only [eqTyB, Bool.and_eq_true, Bool.not_eq_true'] at h
  obtain ⟨⟨⟨⟨h1, h2⟩, h3⟩, h4⟩, h5⟩ := h
  have ht : P.underlying t = some (.struct (P.fieldsOf t)) := by
    unfold Program.fieldsOf
    split at h1
    · rename_i fs hu; simp [hu]
    · cases h1
  intro w x y xs ys hx hy
  have hm : (P.fieldsOf t).toList.length = m := by simpa using h5
  have key := eqFields_run (P := P) (w := w) (d := 9998) (xs := xs) (ys := ys) (by omega) (P.fieldsOf t).toList 0 h4 (by omega)
  simp only [List.drop_zero] at key
  constructor
  · simp only [Sem.run_bind, run_eqGuard_agg w _ t x y _ _ h3, Result.andThen_ok, run_eql_struct, run_equalIn_agg w 9999 t _ _ ht h2, key]
  · simp only [Sem.run_bind, run_eqGuard_agg w _ t x y _ _ h3, Result.andThen_ok, run_neq_struct, run_equalIn_agg w 9999 t _ _ ht h2, key]
end Go.Proofs.Ytelolknpcmjdeaa
