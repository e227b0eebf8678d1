/-
  Plain facts on what the functions compute.
-/
import Derived.Test.YtcaahmielncmpaaGreatPlainA
import Derived.Test.YtcaahmielncmpaaGreatGenD
set_option linter.unusedSimpArgs false
set_option linter.unusedVariables false
namespace Go.Proofs.YtcaahmielncmpaaGreat
open Go
mutual
def Dv.size : Dv → Nat
  | .mk _ _ ks => 1 + Dv.sizes ks
def Dv.sizes : List Dv → Nat
  | [] => 0
  | k :: ks => k.size + Dv.sizes ks
end
theorem Dv.size_eq (t : Dv) : t.size = 1 + Dv.sizes t.kids := by cases t; rfl
theorem Dv.size_pos (t : Dv) : 1 ≤ t.size := by rw [Dv.size_eq]; omega
theorem Dv.length_le (ks : List Dv) : ks.length ≤ Dv.sizes ks := by
  induction ks with
  | nil => simp [Dv.sizes]
  | cons k ks ih => have := k.size_pos; simp [Dv.sizes]; omega
theorem Dv.size_mem {k : Dv} {ks : List Dv} (h : k ∈ ks) : k.size ≤ Dv.sizes ks := by
  induction ks with
  | nil => cases h
  | cons x ks ih =>
    simp only [Dv.sizes]
    rcases List.mem_cons.1 h with rfl | h
    · omega
    · have := ih h; omega
theorem Dv.size_kid {t k : Dv} (h : k ∈ t.kids) : k.size < t.size := by rw [Dv.size_eq t]; have := Dv.size_mem h; omega
theorem Dv.len_kids (t : Dv) : t.kids.length < t.size := by rw [Dv.size_eq t]; have := Dv.length_le t.kids; omega
theorem Dv.eta (t : Dv) : Dv.mk t.rule t.i t.kids = t := by cases t; rfl

mutual
def Dv.deep : Dv → Nat
  | .mk _ _ ks => Dv.deeps ks + 1
def Dv.deeps : List Dv → Nat
  | [] => 0
  | k :: ks => max k.deep (Dv.deeps ks)
end
theorem Dv.deep_eq (t : Dv) : t.deep = Dv.deeps t.kids + 1 := by cases t; rfl
mutual
theorem Dv.deep_size : ∀ t : Dv, t.deep ≤ t.size
  | .mk _ _ ks => by have := Dv.deeps_size ks; simp only [Dv.deep, Dv.size]; omega
theorem Dv.deeps_size : ∀ ks : List Dv, Dv.deeps ks ≤ Dv.sizes ks
  | [] => by simp [Dv.deeps, Dv.sizes]
  | k :: ks => by
    have := Dv.deep_size k
    have := Dv.deeps_size ks
    simp only [Dv.deeps, Dv.sizes]
    omega
end
mutual
def Dv.weigh : Dv → Int → Int → Int
  | .mk _ _ ks, most, deep => if deep < 0 then most + 1 else Dv.weighL ks most deep 1
def Dv.weighL : List Dv → Int → Int → Int → Int
  | [], _, _, n => n
  | k :: ks, most, deep, n => if n ≤ most then Dv.weighL ks most deep (n + k.weigh (most - n) (deep - 1)) else n
end
mutual
theorem Dv.weigh_bound : ∀ (d : Dv) (most deep : Int), 0 ≤ most → 1 ≤ d.weigh most deep ∧ d.weigh most deep ≤ most + 1
  | .mk _ _ ks, most, deep, h => by
    simp only [Dv.weigh]
    split
    · omega
    · have := Dv.weighL_bound ks most deep 1 h (by omega) (by omega)
      omega
theorem Dv.weighL_bound : ∀ (ks : List Dv) (most deep n : Int), 0 ≤ most → 1 ≤ n → n ≤ most + 1 → n ≤ Dv.weighL ks most deep n ∧ Dv.weighL ks most deep n ≤ most + 1
  | [], most, deep, n, h, h1, h2 => by simp only [Dv.weighL]; omega
  | k :: ks, most, deep, n, h, h1, h2 => by
    simp only [Dv.weighL]
    split
    · have := Dv.weigh_bound k (most - n) (deep - 1) (by omega)
      have := Dv.weighL_bound ks most deep (n + k.weigh (most - n) (deep - 1)) h (by omega) (by omega)
      omega
    · omega
end
mutual
theorem Dv.weigh_size : ∀ (d : Dv) (most deep : Int), 0 ≤ most → -1 ≤ deep → d.weigh most deep ≤ most → (d.size : Int) = d.weigh most deep ∧ (d.deep : Int) ≤ deep + 1
  | .mk _ _ ks, most, deep, h, hd, hw => by
    simp only [Dv.weigh] at hw ⊢
    split at hw
    · omega
    · rename_i hn
      rw [if_neg hn]
      have := Dv.weighL_size ks most deep 1 h (by omega) (by omega) hw
      simp only [Dv.size, Dv.deep]
      omega
theorem Dv.weighL_size : ∀ (ks : List Dv) (most deep n : Int), 0 ≤ most → 0 ≤ deep → 1 ≤ n → Dv.weighL ks most deep n ≤ most → Dv.weighL ks most deep n = n + (Dv.sizes ks : Int) ∧ (Dv.deeps ks : Int) ≤ deep
  | [], most, deep, n, h, hd, h1, hw => by simp only [Dv.weighL, Dv.sizes, Dv.deeps]; omega
  | k :: ks, most, deep, n, h, hd, h1, hw => by
    simp only [Dv.weighL] at hw ⊢
    split at hw
    · rename_i hn
      rw [if_pos hn]
      have b := Dv.weigh_bound k (most - n) (deep - 1) (by omega)
      have e := Dv.weighL_size ks most deep (n + k.weigh (most - n) (deep - 1)) h hd (by omega) hw
      have c := Dv.weigh_size k (most - n) (deep - 1) (by omega) (by omega) (by omega)
      simp only [Dv.sizes, Dv.deeps]
      omega
    · omega
end
section
variable {R : Type}
end
def Dv.at (d : Dv) : List Int → Option Dv
  | [] => some d
  | i :: p => if i < 0 then none else match d.kids[i.toNat]? with
    | some x => Dv.at x p
    | none => none
def nodeD (r i : Int) (len : Nat) : Bool := decide (f30 r = some (len : Int)) && (decide (0 ≤ i) && (decide (i ≤ 1000000) && (decide (i = 0) || (decide (r = 1) || decide (r = 2)))))
mutual
def Dv.ok : Dv → Bool
  | .mk r i ks => nodeD r i ks.length && Dv.oks ks
def Dv.oks : List Dv → Bool
  | [] => true
  | x :: xs => x.ok && Dv.oks xs
end
end Go.Proofs.YtcaahmielncmpaaGreat
