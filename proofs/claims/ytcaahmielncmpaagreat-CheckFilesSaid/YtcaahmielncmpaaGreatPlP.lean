/-
  Plain facts on what the functions compute.
-/
import Derived.Test.YtcaahmielncmpaaGreatPlO
set_option linter.unusedSimpArgs false
set_option linter.unusedVariables false
namespace Go.Proofs.YtcaahmielncmpaaGreat
open Go
theorem f123_ok2 (n : Nat) (t : Tm) (vs : List Tm) (one : Bool) (M : Nat) (hn : ∀ x ∈ vs, x.size ≤ M) (hb : M ≤ BIG) (hvb : vs.length ≤ BIG) (hvn : vs.length < n) (hs : t.size + M + 1 < n) (hts : t.size ≤ 1000000) (hr : t.right = true) : f123 n t vs one = some (t.suball vs one) := by
  simp only [f123, o123_0, ifB_eq]
  have := l138_ok n t vs one (fun x hx => by have := hn x hx; omega) (fun x hx => by have := hn x hx; omega) hvb (some (out2 (Tm.subO vs (vs.map Tm.strip) one 0 (decide (13 ≤ t.kind)) t))) (fun hall => by
    have hsm : Small M vs := fun x hx => ⟨by have := List.all_eq_true.1 hall x hx; unfold okv at this; simp only [Bool.and_eq_true] at this; exact this.1, hn x hx⟩
    rw [f136_ok vs _ one M hsm (strip_small hsm) (by simp) hvb hb n t 0 _ (by omega) (by rw [BIG_eq]; omega) hr (by omega) (by omega)]
    rfl) vs [] n rfl hvn rfl
  rw [len_nil] at this
  refine Eq.trans this ?_
  unfold Tm.suball
  cases vs.all (okv t) <;> rfl
theorem f98_ok2 (n : Nat) (t v : Tm) (hs : t.size + v.size + 1 < n) (hn : 1 < n) (hts : t.size ≤ 1000000) (hb : v.size ≤ BIG) : f98 n t v = some (t.putZ v) := by
  simp only [f98, o98_0, ifB_eq]
  rw [f91_ok n t (by omega) (by rw [BIG_eq]; omega), Option.bind_some]
  unfold Tm.putZ
  cases hr : t.right with
  | false => rfl
  | true =>
    rw [if_neg (by simp), Tm.eta, f123_ok2 n t [v] true v.size (by simp) hb (by rw [BIG_eq]; simp) (by simpa using hn) hs hts hr, if_pos rfl, Option.bind_some]
    unfold Tm.suball
    split
    · cases Tm.subO [v] ([v].map Tm.strip) true 0 (decide (13 ≤ t.kind)) t <;> rfl
    · rfl
def vars (j : Nat) : List Tm := (List.range j).map fun (i : Nat) => var i
end Go.Proofs.YtcaahmielncmpaaGreat
