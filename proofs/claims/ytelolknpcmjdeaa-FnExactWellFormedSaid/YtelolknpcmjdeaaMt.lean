/- Names for many small laws at once, for the steps of the proofs. -/
import Derived.Test.YtelolknpcmjdeaaMs
namespace Go.Proofs.Ytelolknpcmjdeaa
open Go.RowKit

theorem bA : (∀ (l : List (Nat × D)) (i : Nat) (d : D), upd (mk l) i d = mk ((i, d) :: l)) ∧
    (∀ (l : List (Nat × Ent)) (i : Nat) (e : Ent), upd (mkT l) i (some e) = mkT ((i, e) :: del i l)) ∧
    (∀ (j : Nat), mk [] j = D.any) ∧
    (∀ (i : Nat) (d : D) (l : List (Nat × D)) (j : Nat), mk ((i, d) :: l) j = if j = i then d else mk l j) ∧
    (∀ (j : Nat), mkT [] j = none) ∧
    (∀ (i : Nat) (e : Ent) (l : List (Nat × Ent)) (j : Nat), mkT ((i, e) :: l) j = if j = i then some e else mkT l j) ∧
    (∀ (id : Nat) (l : List (Nat × D)), scrS id (mk l) = mk (scrP id l)) ∧
    (∀ (id : Nat) (l : List (Nat × Ent)), scrM id (mkT l) = mkT (scrT id l)) ∧
    (∀ (id : Nat), scrP id [] = []) ∧
    (∀ (id i : Nat) (d : D) (l : List (Nat × D)), scrP id ((i, d) :: l) = (i, scr id d) :: scrP id l) ∧
    (∀ (id : Nat), scrT id [] = []) ∧
    (∀ (id i : Nat) (e : Ent) (l : List (Nat × Ent)), scrT id ((i, e) :: l) = (i, Ent.scr id e) :: scrT id l) ∧
    (∀ (x : Nat), del x ([] : List (Nat × D)) = []) ∧
    (∀ (x i : Nat) (e : D) (l : List (Nat × D)), del x ((i, e) :: l) = if i = x then del x l else (i, e) :: del x l) ∧
    (∀ (x : Nat), del x ([] : List (Nat × Ent)) = []) ∧
    (∀ (x i : Nat) (e : Ent) (l : List (Nat × Ent)), del x ((i, e) :: l) = if i = x then del x l else (i, e) :: del x l) :=
  ⟨upd_mk, upd_mkT, mk_nil, mk_cons, mkT_nil, mkT_cons, scrS_mk, scrM_mkT, scrP_nil, scrP_cons, scrT_nil, scrT_cons, del_nil, del_cons, del_nil, del_cons⟩
theorem bB : (∀ {α : Type} {a : α} {l : List α} {f : α → Bool}, (a :: l).all f = (f a && l.all f)) ∧
    (∀ {α : Type} {f : α → Bool}, [].all f = true) ∧
    (∀ (b : Bool), (b && true) = b) ∧ (∀ (b : Bool), (true && b) = b) ∧ (∀ (b : Bool), (b && b) = b) ∧
    (∀ {α : Type} {a : α} {as : List α}, (a :: as).length = as.length + 1) ∧ (∀ {α : Type}, ([] : List α).length = 0) ∧
    (∀ {α : Type} {a : α} {as : List α} {i : Nat}, List.take (i + 1) (a :: as) = a :: List.take i as) ∧
    (∀ {α : Type} {l : List α}, List.take 0 l = []) ∧
    (∀ {α : Type} {a : α} {l : List α} {i : Nat}, List.drop (i + 1) (a :: l) = List.drop i l) ∧
    (∀ {α : Type} {l : List α}, List.drop 0 l = l) ∧ (∀ {α : Type} {i : Nat}, List.take i ([] : List α) = []) ∧ (∀ {α : Type} {i : Nat}, List.drop i ([] : List α) = []) ∧
    (∀ {α : Type} (l : List α), [] ++ l = l) ∧ (∀ {α : Type} {a : α} {l m : List α}, (a :: l) ++ m = a :: (l ++ m)) ∧ (∀ {α : Type} (l : List α), l ++ [] = l) ∧
    (∀ {α : Type} {x : α} {l : List α} {d : α}, (x :: l).getD 0 d = x) ∧ (∀ {α : Type} {x : α} {l : List α} {n : Nat} {d : α}, (x :: l).getD (n + 1) d = l.getD n d) ∧
    (∀ {α β : Type} {f : α → β} {a : α} {l : List α}, (a :: l).map f = f a :: l.map f) ∧ (∀ {α β : Type} {f : α → β}, [].map f = []) ∧
    (∀ {α : Type} {a : α} {l : List α}, (a :: l)[0]? = some a) ∧ (∀ {α : Type} {a : α} {i : Nat} {l : List α}, (a :: l)[i + 1]? = l[i]?) ∧
    (∀ {α β : Type} {l : List α} (f : α → β), (l.map f).length = l.length) ∧
    (∀ (n : Nat), Int.toNat n = n) ∧ (∀ (n : Nat), (0 : Int) ≤ n) ∧
    (∀ {α : Type} (a b : α), (some a = some b) = (a = b)) ∧ (∀ (a b : List (List D)), (Ent.row a = Ent.row b) = (a = b)) :=
  ⟨List.all_cons, List.all_nil, Bool.and_true, Bool.true_and, Bool.and_self, List.length_cons, List.length_nil, List.take_succ_cons, List.take_zero, List.drop_succ_cons, List.drop_zero, List.take_nil, List.drop_nil, List.nil_append, List.cons_append, List.append_nil, List.getD_cons_zero, List.getD_cons_succ, List.map_cons, List.map_nil, List.getElem?_cons_zero, List.getElem?_cons_succ, List.length_map, Int.toNat_natCast, Int.natCast_nonneg, fun a b => by simp, fun a b => by simp⟩
end Go.Proofs.Ytelolknpcmjdeaa
