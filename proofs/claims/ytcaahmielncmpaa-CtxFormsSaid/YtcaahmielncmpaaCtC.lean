/-
  Plain facts on what the functions compute.
-/
import Derived.Test.YtcaahmielncmpaaCtB
set_option linter.unusedSimpArgs false
set_option linter.unusedVariables false
namespace Go.Proofs.Ytcaahmielncmpaa
open Go
theorem room56 {n : Nat} (h : n ≤ BIG) : (decide ((n + 1) * 56 ≤ 140737488355328) && decide (n + 1 ≤ 9223372036854775807)) = true := by
  rw [BIG_eq] at h
  simp only [Bool.and_eq_true, decide_eq_true_eq]; omega
def Ent.er (e : Ent) : Ent := Ent.mk e.a.erase e.i
theorem rightC_mem : ∀ {c : List Ent} {k : Nat} {e : Ent}, rightC k c = true → e ∈ c → e.a.marked = true
  | [], _, _, _, h => by cases h
  | x :: r, k, e, hr, h => by
    simp only [rightC, Bool.and_eq_true] at hr
    rcases List.mem_cons.1 h with rfl | h
    · exact hr.2.1
    · exact rightC_mem hr.2.2.2 h
theorem rightC_er : ∀ {c : List Ent} {k : Nat}, rightC k c = true → rightC k (c.map Ent.er) = true
  | [], _, _ => rfl
  | x :: r, k, hr => by
    simp only [rightC, Bool.and_eq_true, decide_eq_true_eq] at hr
    simp only [List.map_cons, rightC, Bool.and_eq_true, decide_eq_true_eq]
    have := Tm.erase_free hr.2.1
    refine ⟨hr.1, Tm.erase_marked' hr.2.1, ?_, rightC_er hr.2.2.2⟩
    show x.a.erase.free ≤ _
    omega
theorem Tm.erase_twice {t : Tm} (h : t.marked = true) : t.erase.erase = t.erase :=
  Tm.erase_fix _ _ (Nat.lt_succ_self _) (Tm.erase_count _ t (Nat.lt_succ_self _) h)
theorem er_er {c : List Ent} {k : Nat} (hr : rightC k c = true) : (c.map Ent.er).map Ent.er = c.map Ent.er := by
  rw [List.map_map]
  apply List.map_congr_left
  intro e he
  show Ent.er (Ent.er e) = Ent.er e
  unfold Ent.er
  rw [Tm.erase_twice (rightC_mem hr he)]
theorem csize_er : ∀ {c : List Ent} {k : Nat}, rightC k c = true → csize (c.map Ent.er) ≤ csize c
  | [], _, _ => by simp [csize]
  | x :: r, k, hr => by
    simp only [rightC, Bool.and_eq_true] at hr
    have := Tm.erase_le hr.2.1
    have := csize_er hr.2.2.2
    simp only [List.map_cons, csize]
    show x.a.erase.size + _ ≤ _
    omega
def eraseC (c : List Ent) : List Ent := if rightC 0 c = true then c.map Ent.er else []
def plainC (c : List Ent) : List Tm := if rightC 0 c = true then c.map (fun e => e.a.stripZ) else []

theorem l45_ok (n : Nat) (c : List Ent) (hl : c.length ≤ BIG) (hc : ∀ e ∈ c, e.a.marked = true ∧ e.a.size + 1 < n ∧ e.a.size ≤ BIG) : ∀ (rest pre : List Ent) (m : Nat), c = pre ++ rest → rest.length < m →
    l45_1 n m (pre.map Ent.er) c (c.length : Int) (pre.length : Int) = some (c.map Ent.er) := by
  intro rest
  induction rest with
  | nil =>
    intro pre m hk hm
    obtain ⟨m, rfl⟩ := fuel hm
    simp only [l45_1, o45_1, decide_eq_true_eq, ifB_eq]
    rw [if_neg (ge_at hk)]
    rw [hk]; simp
  | cons x rest ih =>
    intro pre m hk hm
    obtain ⟨m, rfl⟩ := fuel hm
    simp only [List.length_cons] at hm
    have hp : pre.length ≤ BIG := by rw [hk] at hl; simp at hl; omega
    obtain ⟨hx0, hx1, hx2⟩ := hc x (by rw [hk]; simp)
    simp only [l45_1, o45_1, decide_eq_true_eq, atI_at hk, ifB_eq]
    rw [if_pos (lt_at hk), f22_ok n x.a hx1 hx2, Option.bind_some, if_pos hx0, ckB_eq (by simpa using room64 hp), ckI_eq (idx_ok hp), ent_eta]
    have := ih (pre ++ [x]) m (next_at hk) (by omega)
    rw [len_snoc, List.map_append] at this
    exact this
theorem f45_ok (n : Nat) (c : List Ent) (hn : csize c + 1 < n) (hb : csize c ≤ BIG) : f45 n c = some (eraseC c) := by
  have hl := csize_len c
  simp only [f45, o45_0, ifB_eq]
  rw [f41_ok n c (by omega) hb, Option.bind_some]
  unfold eraseC
  cases hr : rightC 0 c with
  | false => rw [if_pos (by simp), if_neg (by simp)]
  | true =>
    rw [if_neg (by simp), if_pos rfl, ckB_eq (by rw [BIG_eq] at hb; simp only [Bool.and_eq_true, decide_eq_true_eq]; omega)]
    have := l45_ok n c (by omega) (fun e he => ⟨rightC_mem hr he, by have := csize_mem he; omega, by have := csize_mem he; omega⟩) c [] n rfl (by omega)
    rw [len_nil] at this
    exact this

theorem l48_ok (n : Nat) (c : List Ent) (hn : csize c + 1 < n) (hb : csize c ≤ BIG) (hr : rightC 0 c = true) : ∀ (rest pre : List Ent) (m : Nat), c = pre ++ rest → rest.length < m →
    l48_1 n m c (pre.map Ent.er) (pre.length : Int) = some (c.map Ent.er) := by
  have hl := csize_len c
  intro rest
  induction rest with
  | nil =>
    intro pre m hk hm
    obtain ⟨m, rfl⟩ := fuel hm
    simp only [l48_1, o48_1, decide_eq_true_eq, ifB_eq]
    rw [if_neg (ge_at hk)]
    rw [hk]; simp
  | cons x rest ih =>
    intro pre m hk hm
    obtain ⟨m, rfl⟩ := fuel hm
    simp only [List.length_cons] at hm
    have hp : pre.length ≤ BIG := by have : c.length ≤ BIG := by omega
                                     rw [hk] at this; simp at this; omega
    have hx : x ∈ c := by rw [hk]; simp
    have hx1 := csize_mem hx
    simp only [l48_1, o48_1, c48_2, o48_2, decide_eq_true_eq, atI_at hk, ifB_eq]
    rw [if_pos (lt_at hk), f42_ok n c (by omega) hb, Option.bind_some, if_pos hr, f20_ok n x.a (by omega) (by omega), Option.bind_some, if_pos (rightC_mem hr hx), ckB_eq (by simpa using room64 hp), ckI_eq (idx_ok hp), ent_eta]
    have := ih (pre ++ [x]) m (next_at hk) (by omega)
    rw [len_snoc, List.map_append] at this
    exact this
theorem f48_ok (n : Nat) (c : List Ent) (hn : csize c + 1 < n) (hb : csize c ≤ BIG) : f48 n c = some (eraseC c) := by
  have hl := csize_len c
  unfold eraseC
  cases hr : rightC 0 c with
  | false =>
    rw [if_neg (by simp)]
    obtain ⟨m, rfl⟩ : ∃ m, n = m + 1 := ⟨n - 1, by omega⟩
    simp only [f48, o48_0, l48_1, o48_1, decide_eq_true_eq, ifB_eq]
    by_cases h : (0 : Int) < (c.length : Int)
    · rw [if_pos h, f42_ok _ c (by omega) hb, Option.bind_some, hr, if_neg (by simp)]
    · rw [if_neg h]
  | true =>
    have := l48_ok n c hn hb hr c [] n rfl (by omega)
    rw [len_nil] at this
    rw [if_pos rfl]
    simp only [f48, o48_0, ifB_eq]
    exact this

theorem l46_ok (n : Nat) (c : List Ent) (hl : c.length ≤ BIG) (hc : ∀ e ∈ c, e.a.size + 5 < n ∧ e.a.size ≤ BIG) : ∀ (rest pre : List Ent) (m : Nat), c = pre ++ rest → rest.length < m →
    l46_1 n m (pre.map fun e => e.a.stripZ) c (c.length : Int) (pre.length : Int) = some (c.map fun e => e.a.stripZ) := by
  intro rest
  induction rest with
  | nil =>
    intro pre m hk hm
    obtain ⟨m, rfl⟩ := fuel hm
    simp only [l46_1, o46_1, decide_eq_true_eq, ifB_eq]
    rw [if_neg (ge_at hk)]
    rw [hk]; simp
  | cons x rest ih =>
    intro pre m hk hm
    obtain ⟨m, rfl⟩ := fuel hm
    simp only [List.length_cons] at hm
    have hp : pre.length ≤ BIG := by rw [hk] at hl; simp at hl; omega
    obtain ⟨hx1, hx2⟩ := hc x (by rw [hk]; simp)
    simp only [l46_1, o46_1, decide_eq_true_eq, atI_at hk, ifB_eq]
    rw [if_pos (lt_at hk), f30_ok n x.a (by omega) hx2, Option.bind_some, ckB_eq (by simpa using room56 hp), ckI_eq (idx_ok hp), Tm.eta]
    have := ih (pre ++ [x]) m (next_at hk) (by omega)
    rw [len_snoc, List.map_append] at this
    exact this
theorem f46_ok (n : Nat) (c : List Ent) (hn : csize c + 5 < n) (hb : csize c ≤ BIG) : f46 n c = some (plainC c) := by
  have hl := csize_len c
  simp only [f46, o46_0, ifB_eq]
  rw [f41_ok n c (by omega) hb, Option.bind_some]
  unfold plainC
  cases hr : rightC 0 c with
  | false => rw [if_pos (by simp), if_neg (by simp)]
  | true =>
    rw [if_neg (by simp), if_pos rfl, ckB_eq (by rw [BIG_eq] at hb; simp only [Bool.and_eq_true, decide_eq_true_eq]; omega)]
    have := l46_ok n c (by omega) (fun e he => ⟨by have := csize_mem he; omega, by have := csize_mem he; omega⟩) c [] n rfl (by omega)
    rw [len_nil] at this
    exact this

theorem l50_ok (n : Nat) (c : List Ent) (hn : csize c + 5 < n) (hb : csize c ≤ BIG) (hr : rightC 0 c = true) : ∀ (rest pre : List Ent) (m : Nat), c = pre ++ rest → rest.length < m →
    l50_1 n m c (pre.map fun e => e.a.stripZ) (pre.length : Int) = some (c.map fun e => e.a.stripZ) := by
  have hl := csize_len c
  intro rest
  induction rest with
  | nil =>
    intro pre m hk hm
    obtain ⟨m, rfl⟩ := fuel hm
    simp only [l50_1, o50_1, decide_eq_true_eq, ifB_eq]
    rw [if_neg (ge_at hk)]
    rw [hk]; simp
  | cons x rest ih =>
    intro pre m hk hm
    obtain ⟨m, rfl⟩ := fuel hm
    simp only [List.length_cons] at hm
    have hp : pre.length ≤ BIG := by have : c.length ≤ BIG := by omega
                                     rw [hk] at this; simp at this; omega
    have hx : x ∈ c := by rw [hk]; simp
    have hx1 := csize_mem hx
    simp only [l50_1, o50_1, c50_2, o50_2, decide_eq_true_eq, atI_at hk, ifB_eq]
    rw [if_pos (lt_at hk), f42_ok n c (by omega) hb, Option.bind_some, if_pos hr, f29_ok n x.a (by omega) (by omega), Option.bind_some, ckB_eq (by simpa using room56 hp), ckI_eq (idx_ok hp), Tm.eta]
    have := ih (pre ++ [x]) m (next_at hk) (by omega)
    rw [len_snoc, List.map_append] at this
    exact this
theorem f50_ok (n : Nat) (c : List Ent) (hn : csize c + 5 < n) (hb : csize c ≤ BIG) : f50 n c = some (plainC c) := by
  have hl := csize_len c
  unfold plainC
  cases hr : rightC 0 c with
  | false =>
    rw [if_neg (by simp)]
    obtain ⟨m, rfl⟩ : ∃ m, n = m + 1 := ⟨n - 1, by omega⟩
    simp only [f50, o50_0, l50_1, o50_1, decide_eq_true_eq, ifB_eq]
    by_cases h : (0 : Int) < (c.length : Int)
    · rw [if_pos h, f42_ok _ c (by omega) hb, Option.bind_some, hr, if_neg (by simp)]
    · rw [if_neg h]
  | true =>
    have := l50_ok n c hn hb hr c [] n rfl (by omega)
    rw [len_nil] at this
    rw [if_pos rfl]
    simp only [f50, o50_0, ifB_eq]
    exact this
theorem stripZ_size (t : Tm) : t.stripZ.size ≤ t.size := by
  unfold Tm.stripZ
  have := Tm.size_pos t
  by_cases h : t.right = true
  · rw [if_pos h]; exact Tm.strip_size' t h
  · rw [if_neg h, tzero_size]; omega
theorem plainC_sizes (c : List Ent) : Tm.sizes (plainC c) ≤ csize c := by
  unfold plainC
  by_cases h : rightC 0 c = true
  · rw [if_pos h]
    clear h
    induction c with
    | nil => simp [Tm.sizes, csize]
    | cons x r ih =>
      have := stripZ_size x.a
      simp only [List.map_cons, Tm.sizes, csize]; omega
  · rw [if_neg h]; simp [Tm.sizes]
end Go.Proofs.Ytcaahmielncmpaa
