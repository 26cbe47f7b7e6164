/- The words of this part of the program (n). -/
import Derived.Test.YtelolknpcmjdeaaLm0
namespace Go.Proofs.Ytelolknpcmjdeaa
open Go.RowKit
set_option linter.unusedSimpArgs false
set_option linter.unusedVariables false
set_option maxRecDepth 100000
def verAt (t : Tp) (s : Sg) (i : Nat) : Bool := verHop t s.ts (betaAt s i) (s.hops.getD i hz)
def fstInv (t : Tp) (s : Sg) : Int := fstF (fun i => !verAt t s i) s.hops.length 0
def authBy (t : Tp) (s : Sg) (r : Int) : Bool := !allN (fun i => !((s.hops.getD i hz).asn == r && verAt t s i)) s.hops.length
def coreF (t : Tp) (r : Int) : Bool := if hh : realm t r = true then (t.ases[r.toNat]'(realm_lt hh).2).core else false
def kindF (t : Tp) : List Hp → Int → Option Int
  | [], kd => some kd
  | h :: l, kd => if (h.eg == 0) = true then kindF t l kd else if (kd == 0) = true then kindF t l (ifKind t h.asn h.eg) else if (ifKind t h.asn h.eg == kd) = true then kindF t l kd else none
def kindE : Option Int → Int
  | some k => if (k == 1) = true then 1 else if (k == 2) = true then 2 else 0
  | none => 0
def segKind (t : Tp) (s : Sg) : Int := if (wellF t s && coreF t (s.hops.getD 0 hz).asn) = true then kindE (kindF t s.hops 0) else 0
def validSeg (t : Tp) (s : Sg) : Bool := wellF t s && decide (fstInv t s < 0) && (segKind t s != 0) && inR s.ts 0 1000000 && inR s.beta 0 2147483646
def usable (t : Tp) (s : Sg) (now : Int) : Bool := validSeg t s && isTerm s && decide (s.ts ≤ now) && decide (now ≤ leastEx s.hops)
def canExt (t : Tp) (s : Sg) (r inn : Int) : Bool := realm t r && validSeg t s && !isTerm s && !hasI (ases s.hops) r && ((remote t (s.hops.getD (s.hops.length - 1) hz).asn (s.hops.getD (s.hops.length - 1) hz).eg).1 == r && (remote t (s.hops.getD (s.hops.length - 1) hz).asn (s.hops.getD (s.hops.length - 1) hz).eg).2 == inn)
theorem well_len {t : Tp} {s : Sg} (h : wellF t s = true) : 0 < s.hops.length ∧ s.hops.length ≤ 8 := by
  simp only [wellF, Bool.and_eq_true] at h; exact hopsOk_len h.1.1
theorem validSeg_well {t : Tp} {s : Sg} (h : validSeg t s = true) : wellF t s = true := by
  simp only [validSeg, Bool.and_eq_true] at h; exact h.1.1.1.1
theorem well_realm {t : Tp} {s : Sg} (h : wellF t s = true) {k : Nat} (hk : k < s.hops.length) : realm t s.hops[k].asn = true := by
  simp only [wellF, hopsOkF, Bool.and_eq_true] at h
  have := allN_iff.1 h.1.1.2 k hk
  simp only [hopP, getD_lt hk, Bool.and_eq_true] at this
  exact this.1.2
theorem firstAS_well {s : Sg} (h : 0 < s.hops.length) : firstAS s = s.hops[0].asn := by
  obtain ⟨ts, be, hs⟩ := s
  cases hs with
  | nil => simp at h
  | cons x l => rfl
theorem kindF_drop {t : Tp} {l : List Hp} {k : Nat} (h : k < l.length) (kd : Int) : kindF t (l.drop k) kd = if (l[k].eg == 0) = true then kindF t (l.drop (k + 1)) kd else if (kd == 0) = true then kindF t (l.drop (k + 1)) (ifKind t l[k].asn l[k].eg) else if (ifKind t l[k].asn l[k].eg == kd) = true then kindF t (l.drop (k + 1)) kd else none := by
  rw [List.drop_eq_getElem_cons h, kindF]

def stoP (t : Tp) (r : Int) (l : List Bc) (i : Nat) : Bool := canExt t (l.getD i ⟨0, ⟨0, 0, []⟩⟩).seg r (l.getD i ⟨0, ⟨0, 0, []⟩⟩).ing && !hasB (l.take i) (l.getD i ⟨0, ⟨0, 0, []⟩⟩)
def validStore (t : Tp) (r : Int) (l : List Bc) : Bool := decide (l.length ≤ 12) && allN (stoP t r l) l.length
theorem store_bad {t : Tp} {r : Int} {l : List Bc} {k : Nat} (h : k < l.length) (hp : stoP t r l k = false) : validStore t r l = false := by
  rw [validStore, allN_bad hp h, Bool.and_false]

end Go.Proofs.Ytelolknpcmjdeaa
