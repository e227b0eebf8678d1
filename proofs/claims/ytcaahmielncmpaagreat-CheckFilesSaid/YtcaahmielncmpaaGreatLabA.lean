/-
  The operations of the language are sound on abstract states, kind by kind.
-/
import Derived.WalkKit
import Derived.Deep.MidRow
import Derived.Orders
import Derived.Maps.AppendAt
import Derived.Great.BuildSlice
set_option linter.unusedSimpArgs false
set_option linter.unusedVariables false
namespace Go.Proofs.YtcaahmielncmpaaGreat
open Go Go.RowKit

/-! ## Immutable data, one cell each -/
inductive C where
  | int (n : Int)
  | bool (b : Bool)
  | str (s : ByteArray)
  | flt (x : Nat)
  | slice (rows : List (List C))

/-- No memory behind it. -/
def C.flat : C → Bool
  | .slice _ => false
  | _ => true

mutual
/-- The value v reads as the datum, in world w; 'ok b off': what is asked of the place of each slice that is not empty. -/
def Rep (ok : Nat → Nat → Prop) (w : World) : C → Value → Prop
  | .int n, v => v = .int .i64 n
  | .bool b, v => v = .bool b
  | .str s, v => v = .string s
  | .flt x, v => v = .float .f64 x
  | .slice rows, v => ∃ a cap, v = .slice a rows.length cap ∧ rows.length ≤ cap ∧ (rows = [] ∨ ∃ b off sz, a = some ⟨b, off, none⟩ ∧ ok b off ∧ RepRows ok w b sz rows off)
def RepRows (ok : Nat → Nat → Prop) (w : World) (b sz : Nat) : List (List C) → Nat → Prop
  | [], _ => True
  | r :: rs, off => r.length = sz ∧ RepRow ok w b r off ∧ RepRows ok w b sz rs (off + sz)
def RepRow (ok : Nat → Nat → Prop) (w : World) (b : Nat) : List C → Nat → Prop
  | [], _ => True
  | c :: cs, off => (∃ v, w.cell? ⟨b, off, none⟩ = some v ∧ Rep ok w c v) ∧ RepRow ok w b cs (off + 1)
end

mutual
theorem Rep.mono {ok ok' : Nat → Nat → Prop} {w w' : World} (hok : ∀ b off, ok b off → ok' b off)
    (hw : ∀ b off, ok b off → ∀ o v, w.cell? ⟨b, o, none⟩ = some v → w'.cell? ⟨b, o, none⟩ = some v) :
    ∀ (c : C) (v : Value), Rep ok w c v → Rep ok' w' c v
  | .int n, v, h => by simpa only [Rep] using h
  | .bool n, v, h => by simpa only [Rep] using h
  | .str n, v, h => by simpa only [Rep] using h
  | .flt n, v, h => by simpa only [Rep] using h
  | .slice rows, v, h => by
    simp only [Rep] at h ⊢
    obtain ⟨a, cap, hv, hle, h⟩ := h
    refine ⟨a, cap, hv, hle, h.imp id ?_⟩
    rintro ⟨b, off, sz, ha, hb, hr⟩
    exact ⟨b, off, sz, ha, hok _ _ hb, RepRows.mono hok hw (hw b off hb) rows off hr⟩
theorem RepRows.mono {ok ok' : Nat → Nat → Prop} {w w' : World} (hok : ∀ b off, ok b off → ok' b off)
    (hw : ∀ b off, ok b off → ∀ o v, w.cell? ⟨b, o, none⟩ = some v → w'.cell? ⟨b, o, none⟩ = some v) {b sz : Nat}
    (hb : ∀ o v, w.cell? ⟨b, o, none⟩ = some v → w'.cell? ⟨b, o, none⟩ = some v) :
    ∀ (rows : List (List C)) (off : Nat), RepRows ok w b sz rows off → RepRows ok' w' b sz rows off
  | [], _, _ => by simp only [RepRows]
  | r :: rs, off, h => by
    simp only [RepRows] at h ⊢
    exact ⟨h.1, RepRow.mono hok hw hb r off h.2.1, RepRows.mono hok hw hb rs _ h.2.2⟩
theorem RepRow.mono {ok ok' : Nat → Nat → Prop} {w w' : World} (hok : ∀ b off, ok b off → ok' b off)
    (hw : ∀ b off, ok b off → ∀ o v, w.cell? ⟨b, o, none⟩ = some v → w'.cell? ⟨b, o, none⟩ = some v) {b : Nat}
    (hb : ∀ o v, w.cell? ⟨b, o, none⟩ = some v → w'.cell? ⟨b, o, none⟩ = some v) :
    ∀ (r : List C) (off : Nat), RepRow ok w b r off → RepRow ok' w' b r off
  | [], _, _ => by simp only [RepRow]
  | c :: cs, off, h => by
    simp only [RepRow] at h ⊢
    obtain ⟨⟨v, h1, h2⟩, h3⟩ := h
    exact ⟨⟨v, hb _ _ h1, Rep.mono hok hw c v h2⟩, RepRow.mono hok hw hb cs _ h3⟩
end

theorem Rep.oneCell {ok : Nat → Nat → Prop} {w : World} : ∀ {c : C} {v : Value}, Rep ok w c v → v.oneCell' = true
  | .int n, v, h => by simp only [Rep] at h; subst h; rfl
  | .bool n, v, h => by simp only [Rep] at h; subst h; rfl
  | .str n, v, h => by simp only [Rep] at h; subst h; rfl
  | .flt n, v, h => by simp only [Rep] at h; subst h; rfl
  | .slice rows, v, h => by
    simp only [Rep] at h
    obtain ⟨a, cap, hv, _⟩ := h
    subst hv; rfl

theorem Rep.flat {ok ok' : Nat → Nat → Prop} {w w' : World} : ∀ {c : C} {v : Value}, c.flat = true → Rep ok w c v → Rep ok' w' c v
  | .int n, v, _, h => by simpa only [Rep] using h
  | .bool n, v, _, h => by simpa only [Rep] using h
  | .str n, v, _, h => by simpa only [Rep] using h
  | .flt n, v, _, h => by simpa only [Rep] using h
  | .slice rows, v, hf, h => by cases hf

theorem RepRow.get {ok : Nat → Nat → Prop} {w : World} {b : Nat} : ∀ {r : List C} {off : Nat}, RepRow ok w b r off →
    ∀ j c, r[j]? = some c → ∃ v, w.cell? ⟨b, off + j, none⟩ = some v ∧ Rep ok w c v
  | [], _, _, j, c, hj => by simp at hj
  | c0 :: cs, off, h, 0, c, hj => by
    simp only [RepRow] at h
    simp at hj; subst hj
    simpa using h.1
  | c0 :: cs, off, h, j + 1, c, hj => by
    simp only [RepRow] at h
    simp at hj
    obtain ⟨v, h1, h2⟩ := RepRow.get h.2 j c hj
    exact ⟨v, by rw [show off + (j + 1) = off + 1 + j by omega]; exact h1, h2⟩

theorem RepRow.mk {ok : Nat → Nat → Prop} {w : World} {b : Nat} : ∀ {r : List C} {off : Nat},
    (∀ j c, r[j]? = some c → ∃ v, w.cell? ⟨b, off + j, none⟩ = some v ∧ Rep ok w c v) → RepRow ok w b r off
  | [], _, _ => by simp only [RepRow]
  | c0 :: cs, off, h => by
    simp only [RepRow]
    refine ⟨by simpa using h 0 c0 rfl, RepRow.mk fun j c hj => ?_⟩
    have := h (j + 1) c (by simpa using hj)
    rwa [show off + (j + 1) = off + 1 + j by omega] at this

theorem RepRow.drop {ok : Nat → Nat → Prop} {w : World} {b : Nat} {r : List C} {off : Nat} (h : RepRow ok w b r off) (k : Nat) : RepRow ok w b (r.drop k) (off + k) :=
  RepRow.mk fun j c hj => by
    rw [List.getElem?_drop] at hj
    have := h.get _ _ hj
    rwa [← Nat.add_assoc] at this

theorem RepRows.get {ok : Nat → Nat → Prop} {w : World} {b sz : Nat} : ∀ {rows : List (List C)} {off : Nat}, RepRows ok w b sz rows off →
    ∀ j r, rows[j]? = some r → r.length = sz ∧ RepRow ok w b r (off + j * sz)
  | [], _, _, j, c, hj => by simp at hj
  | r0 :: rs, off, h, 0, c, hj => by
    simp only [RepRows] at h
    simp at hj; subst hj
    simpa using ⟨h.1, h.2.1⟩
  | r0 :: rs, off, h, j + 1, c, hj => by
    simp only [RepRows] at h
    simp at hj
    have := RepRows.get h.2.2 j c hj
    rwa [show off + sz + j * sz = off + (j + 1) * sz by rw [Nat.add_mul]; omega] at this

theorem RepRows.mk {ok : Nat → Nat → Prop} {w : World} {b sz : Nat} : ∀ {rows : List (List C)} {off : Nat},
    (∀ j r, rows[j]? = some r → r.length = sz ∧ RepRow ok w b r (off + j * sz)) → RepRows ok w b sz rows off
  | [], _, _ => by simp only [RepRows]
  | r0 :: rs, off, h => by
    simp only [RepRows]
    have h0 := h 0 r0 rfl
    refine ⟨h0.1, by simpa using h0.2, RepRows.mk fun j r hj => ?_⟩
    have := h (j + 1) r (by simpa using hj)
    rwa [show off + (j + 1) * sz = off + sz + j * sz by rw [Nat.add_mul]; omega] at this

/-! ## Two lists, pointwise -/
inductive All2 {α β : Type} (R : α → β → Prop) : List α → List β → Prop where
  | nil : All2 R [] []
  | cons {a b l m} : R a b → All2 R l m → All2 R (a :: l) (b :: m)

theorem All2.length {α β : Type} {R : α → β → Prop} {l : List α} {m : List β} (h : All2 R l m) : l.length = m.length := by
  induction h with
  | nil => rfl
  | cons _ _ ih => simp [ih]

theorem All2.mono {α β : Type} {R R' : α → β → Prop} (hr : ∀ a b, R a b → R' a b) {l : List α} {m : List β} (h : All2 R l m) : All2 R' l m := by
  induction h with
  | nil => exact .nil
  | cons h _ ih => exact .cons (hr _ _ h) ih

theorem All2.get {α β : Type} {R : α → β → Prop} {l : List α} {m : List β} (h : All2 R l m) : ∀ (i : Nat) (a : α), l[i]? = some a → ∃ b, m[i]? = some b ∧ R a b := by
  induction h with
  | nil => intro i a h; simp at h
  | cons h _ ih =>
    intro i a hi
    cases i with
    | zero => simp at hi; subst hi; exact ⟨_, rfl, h⟩
    | succ i => simpa using ih i a (by simpa using hi)

theorem All2.mk {α β : Type} {R : α → β → Prop} : ∀ {l : List α} {m : List β}, l.length = m.length → (∀ (i : Nat) (a : α) (b : β), l[i]? = some a → m[i]? = some b → R a b) → All2 R l m
  | [], [], _, _ => .nil
  | a :: l, b :: m, hl, h => .cons (h 0 a b rfl rfl) (All2.mk (by simpa using hl) fun i a' b' h1 h2 => h (i + 1) a' b' (by simpa using h1) (by simpa using h2))

theorem All2.get' {α β : Type} {R : α → β → Prop} {l : List α} {m : List β} (h : All2 R l m) (i : Nat) (a : α) (b : β) (ha : l[i]? = some a) (hb : m[i]? = some b) : R a b := by
  obtain ⟨b', h1, h2⟩ := h.get i a ha
  rw [hb] at h1
  exact Option.some.inj h1 ▸ h2

theorem All2.drop {α β : Type} {R : α → β → Prop} {l : List α} {m : List β} (h : All2 R l m) (k : Nat) : All2 R (l.drop k) (m.drop k) :=
  All2.mk (by simp [h.length]) fun i a b h1 h2 => h.get' (k + i) a b (by simpa using h1) (by simpa using h2)

theorem All2.take {α β : Type} {R : α → β → Prop} {l : List α} {m : List β} (h : All2 R l m) (k : Nat) : All2 R (l.take k) (m.take k) := by
  induction h generalizing k with
  | nil => simpa using All2.nil
  | cons h _ ih =>
    cases k with
    | zero => simpa using All2.nil
    | succ k => simpa using All2.cons h (ih k)

theorem All2.append {α β : Type} {R : α → β → Prop} {l l' : List α} {m m' : List β} (h : All2 R l m) (h' : All2 R l' m') : All2 R (l ++ l') (m ++ m') := by
  induction h with
  | nil => exact h'
  | cons h _ ih => exact .cons h ih

theorem All2.map_left {α β γ : Type} {R : α → β → Prop} (f : γ → α) {l : List γ} {m : List β} (h : All2 (fun a b => R (f a) b) l m) : All2 R (l.map f) m := by
  induction h with
  | nil => exact .nil
  | cons h _ ih => exact .cons h ih

theorem All2.of_map_left {α β γ : Type} {R : α → β → Prop} (f : γ → α) : ∀ {l : List γ} {m : List β}, All2 R (l.map f) m → All2 (fun a b => R (f a) b) l m
  | [], [], _ => .nil
  | a :: l, b :: m, h => by
    cases h with
    | cons h1 h2 => exact .cons h1 (All2.of_map_left f h2)

theorem All2.right {α β : Type} {R : α → β → Prop} {l : List α} {m : List β} (h : All2 R l m) : ∀ b ∈ m, ∃ a ∈ l, R a b := by
  induction h with
  | nil => intro b hb; cases hb
  | cons h _ ih =>
    intro b hb
    rcases List.mem_cons.1 hb with rfl | hb
    · exact ⟨_, List.mem_cons_self, h⟩
    · obtain ⟨a, ha, hr⟩ := ih b hb
      exact ⟨a, List.mem_cons_of_mem _ ha, hr⟩

/-! ## Abstract cells, values, objects, states -/
inductive AC where
  | c (x : C) (fr : Bool)
  | nils
  | ptr (id off : Nat)
  | el (id sz i off : Nat)
  | arr (id : Nat)
  | ro (xs : List C)
  | nilp
  | fn (f id : Nat)
  /-- The first rows of a row of the call's own. -/
  | pre (id n : Nat)
  /-- Nil, or a pointer to new memory of its own: a number and a row of numbers. -/
  | fb (o : Option (Int × Nat × List Int))
  | any

/-- The type of numbers. -/
def fbE : Nat := 3

inductive A1 where
  | one (x : AC)
  | agg (xs : List AC)

/-- A value handed over: data, or a place that is only read. -/
inductive IV where
  | one (x : C)
  | agg (xs : List C)
  | ro (xs : List C)

inductive AV where
  | v (x : A1)
  | tup (xs : List A1)
  | undef
  | old (x : IV)
  /-- A row that was lent: its own block may be written later by the caller. -/
  | sh (rows : List (List C))
  | rp (xs : List C)

inductive Ob where
  | box (cells : List AC)
  | row (e sz : Nat) (rows : List (List C)) (fr : Bool)

structure AS where
  env : List (Nat × AV)
  heap : List (Nat × Option Ob)
  next : Nat

def AS.get (s : AS) (t : Nat) : Option AV := s.env.lookup t
def AS.obj (s : AS) (id : Nat) : Option Ob := (s.heap.lookup id).join

def blkOf : Value → Option Nat
  | .pointer (some a) => some a.block
  | .slice (some a) _ _ => some a.block
  | _ => none

/-- What a proof of one call fixes: the program, the world at its beginning, the caller's blocks that may not be met in data, the number of temporaries. -/
structure Cx where
  P : Program
  w0 : World
  S : Nat → Prop
  nt : Nat
  /-- What is new lies from here on. -/
  F : Nat

def Cx.N (cx : Cx) : Nat := cx.w0.heap.size

/-- The blocks that may be written: the caller's own and the live objects' ones. -/
def Mut (cx : Cx) (β : Nat → Value) (s : AS) (b : Nat) : Prop := cx.S b ∨ ∃ id o, s.obj id = some o ∧ blkOf (β id) = some b

def okA (N : Nat) (M : Nat → Prop) (w : World) (fr : Bool) (b off : Nat) : Prop :=
  b < w.heap.size ∧ ¬ M b ∧ (fr = true → N ≤ b ∧ off = 0 ∧ ∃ cs T, w.heap[b]? = some (.cells cs T (0, 0)))

def gI (N : Nat) (M : Nat → Prop) (w : World) (fr : Bool) : IV → Value → Prop
  | .one x, v => Rep (okA N M w fr) w x v
  | .agg xs, v => ∃ vs : List Value, v = .agg vs.toArray ∧ All2 (Rep (okA N M w fr) w) xs vs
  | .ro xs, v => ∃ b off, v = .pointer (some ⟨b, off, none⟩) ∧ b < w.heap.size ∧ ¬ M b ∧ RepRow (okA N M w false) w b xs off

def FB (N : Nat) (M : Nat → Prop) (w : World) : Option (Int × Nat × List Int) → Value → Prop
  | none, v => v = .pointer none
  | some (k, e, l), v => ∃ b T u, v = .pointer (some ⟨b, 0, none⟩) ∧ N ≤ b ∧ ¬ M b ∧ w.heap[b]? = some (.cells #[.int .i64 k, u] T (0, 0)) ∧
      w.ownsRow N e 1 u l.length (l.map (Value.int .i64)) ∧ ∀ g, blkOf u = some g → ¬ M g ∧ g ≠ b
theorem FB.keep {N N' : Nat} {M M' : Nat → Prop} {w w' : World} (hN : N' ≤ N) (hk : ∀ k, k < w.heap.size → ¬ M k → w'.heap[k]? = w.heap[k]?) (hm : ∀ k, N ≤ k → k < w.heap.size → M' k → M k) {o : Option (Int × Nat × List Int)} {v : Value} (h : FB N M w o v) : FB N' M' w' o v := by
  match o, h with
  | none, h => exact h
  | some (k, e, l), ⟨b, T, u, h1, h2, h3, h4, h5, h6⟩ =>
    have hb := (Array.getElem?_eq_some_iff.1 h4).1
    refine ⟨b, T, u, h1, Nat.le_trans hN h2, fun hm' => h3 (hm b h2 hb hm'), by rw [hk b hb h3]; exact h4, ⟨h5.1, ?_⟩, fun g hg => ?_⟩
    · rcases h5.2 with hn | ⟨g, cap, cur, hv, hgg, hh, rest⟩
      · exact .inl hn
      · have hgl := (Array.getElem?_eq_some_iff.1 hh).1
        exact .inr ⟨g, cap, cur, hv, Nat.le_trans hN hgg, by rw [hk g hgl (h6 g (by rw [hv]; rfl)).1]; exact hh, rest⟩
    · have hgl : N ≤ g ∧ g < w.heap.size := by
        rcases h5.2 with ⟨hn, _⟩ | ⟨g', cap, cur, hv, hgg, hh, rest⟩
        · rw [hn] at hg; simp [blkOf] at hg
        · rw [hv] at hg; simp [blkOf] at hg; subst hg
          exact ⟨hgg, (Array.getElem?_eq_some_iff.1 hh).1⟩
      exact ⟨fun hm' => (h6 g hg).1 (hm g hgl.1 hgl.2 hm'), (h6 g hg).2⟩

def gC (cx : Cx) (β : Nat → Value) (s : AS) (w : World) : AC → Value → Prop
  | .c x fr, v => Rep (okA cx.F (Mut cx β s) w fr) w x v
  | .nils, v => v = .slice none 0 0
  | .ptr id off, v => v.oneCell' = true ∧ ((s.obj id).isSome = true → ∃ b, blkOf (β id) = some b ∧ v = .pointer (some ⟨b, off, none⟩))
  | .el id sz i off, v => v.oneCell' = true ∧ ((s.obj id).isSome = true → ∃ b, blkOf (β id) = some b ∧ v = .pointer (some ⟨b, i * sz + off, none⟩))
  | .arr id, v => v.oneCell' = true ∧ ((s.obj id).isSome = true → v = β id)
  | .ro xs, v => ∃ b off, v = .pointer (some ⟨b, off, none⟩) ∧ b < w.heap.size ∧ ¬ Mut cx β s b ∧ RepRow (okA cx.F (Mut cx β s) w false) w b xs off
  | .nilp, v => v = .pointer none
  | .fn f id, v => v.oneCell' = true ∧ ((s.obj id).isSome = true → ∃ b, blkOf (β id) = some b ∧ v = .func (.func f) #[] #[.pointer (some ⟨b, 0, none⟩)])
  | .pre id n, v => v.oneCell' = true ∧ ((s.obj id).isSome = true → ∃ ao m cap, β id = .slice ao m cap ∧ n ≤ m ∧ v = .slice ao n cap)
  | .fb o, v => FB cx.N (Mut cx β s) w o v
  | .any, v => v.oneCell' = true

def gSh (S : Nat → Prop) (w : World) (rows : List (List C)) (v : Value) : Prop := ∃ a cap, v = .slice a rows.length cap ∧ rows.length ≤ cap ∧ (rows = [] ∨ ∃ b off sz, a = some ⟨b, off, none⟩ ∧ b < w.heap.size ∧ RepRows (okA 0 S w false) w b sz rows off)
def gRp (S : Nat → Prop) (w : World) (xs : List C) (v : Value) : Prop := ∃ b off, v = .pointer (some ⟨b, off, none⟩) ∧ b < w.heap.size ∧ RepRow (okA 0 S w false) w b xs off

def g1 (cx : Cx) (β : Nat → Value) (s : AS) (w : World) : A1 → Value → Prop
  | .one x, v => gC cx β s w x v
  | .agg xs, v => ∃ vs : List Value, v = .agg vs.toArray ∧ All2 (gC cx β s w) xs vs

def gV (cx : Cx) (β : Nat → Value) (s : AS) (w : World) : AV → Value → Prop
  | .v x, v => g1 cx β s w x v
  | .tup xs, v => ∃ vs : List Value, v = .tuple vs.toArray ∧ All2 (g1 cx β s w) xs vs
  | .undef, v => v = Go.undef
  | .old x, v => gI 0 cx.S cx.w0 false x v
  | .sh rows, v => gSh cx.S cx.w0 rows v
  | .rp xs, v => gRp cx.S cx.w0 xs v

def gO (cx : Cx) (β : Nat → Value) (s : AS) (w : World) (bv : Value) : Ob → Prop
  | .box cells => ∃ b T vs, bv = .pointer (some ⟨b, 0, none⟩) ∧ cx.N ≤ b ∧ w.heap[b]? = some (.cells vs T (0, 0)) ∧ All2 (gC cx β s w) cells vs.toList
  | .row e sz rows fr => 0 < sz ∧ (∀ r ∈ rows, r.length = sz) ∧ ∃ xs, w.ownsRow cx.N e sz bv rows.length xs ∧
      All2 (Rep (okA cx.F (Mut cx β s) w fr) w) rows.flatten xs

/-- The objects that a cell speaks of are among those known. -/
def AC.wf (K : Nat → Prop) : AC → Prop
  | .ptr id _ | .el id _ _ _ | .arr id | .fn _ id | .pre id _ => K id
  | _ => True
def A1.wf (K : Nat → Prop) : A1 → Prop
  | .one x => x.wf K
  | .agg xs => ∀ x ∈ xs, x.wf K
def AV.wf (K : Nat → Prop) : AV → Prop
  | .v x => x.wf K
  | .tup xs => ∀ x ∈ xs, x.wf K
  | .undef => True
  | .old _ => True
  | .sh _ => True
  | .rp _ => True
def Ob.wf (K : Nat → Prop) : Ob → Prop
  | .box cells => ∀ x ∈ cells, x.wf K
  | .row .. => True

structure WF (K : Nat → Prop) (s : AS) : Prop where
  env : ∀ t av, s.get t = some av → av.wf K
  heap : ∀ id o, s.obj id = some o → K id ∧ o.wf K

structure Good (cx : Cx) (β : Nat → Value) (K : Nat → Prop) (s : AS) (a : Act) (w : World) : Prop where
  ext : Below cx.N cx.w0 w
  sb : ∀ b, cx.S b → b < cx.N
  fb : cx.F ≤ cx.N
  defers : a.defers = []
  size : a.tmps.size = cx.nt
  wf : WF K s
  slots : ∀ t av, s.get t = some av → ∃ v, a.tmps[t]? = some v ∧ gV cx β s w av v
  objs : ∀ id o, s.obj id = some o → gO cx β s w (β id) o
  inj : ∀ id id' o o', s.obj id = some o → s.obj id' = some o' → id ≠ id' → ∀ b, blkOf (β id) = some b → blkOf (β id') ≠ some b

/-! ## A step of the world and of the state keeps what is known -/
structure Step (cx : Cx) (K : Nat → Prop) (β : Nat → Value) (s : AS) (w : World) (β' : Nat → Value) (s' : AS) (w' : World) : Prop where
  size : w.heap.size ≤ w'.heap.size
  keep : ∀ k, k < w.heap.size → ¬ Mut cx β s k → w'.heap[k]? = w.heap[k]?
  muts : ∀ b, b < w.heap.size → Mut cx β' s' b → Mut cx β s b
  live : ∀ id, K id → (s'.obj id).isSome = true → (s.obj id).isSome = true ∧ β' id = β id

theorem cell_of_heap {w w' : World} {b : Nat} (h : w'.heap[b]? = w.heap[b]?) (o : Nat) : w'.cell? ⟨b, o, none⟩ = w.cell? ⟨b, o, none⟩ := by
  simp [World.cell?, h]

section
variable {cx : Cx} {K : Nat → Prop} {β β' : Nat → Value} {s s' : AS} {w w' : World}

theorem Step.okA (h : Step cx K β s w β' s' w') {N : Nat} {fr : Bool} : ∀ b off, okA N (Mut cx β s) w fr b off → okA N (Mut cx β' s') w' fr b off := by
  rintro b off ⟨h1, h2, h3⟩
  refine ⟨Nat.lt_of_lt_of_le h1 h.size, fun hm => h2 (h.muts b h1 hm), fun hf => ?_⟩
  obtain ⟨h4, h5, cs, T, h6⟩ := h3 hf
  exact ⟨h4, h5, cs, T, by rw [h.keep b h1 h2]; exact h6⟩

theorem Step.cells (h : Step cx K β s w β' s' w') {N : Nat} {fr : Bool} : ∀ b off, Go.Proofs.YtcaahmielncmpaaGreat.okA N (Mut cx β s) w fr b off → ∀ o v, w.cell? ⟨b, o, none⟩ = some v → w'.cell? ⟨b, o, none⟩ = some v := by
  rintro b off ⟨h1, h2, _⟩ o v hc
  rw [cell_of_heap (h.keep b h1 h2)]
  exact hc

theorem Step.rep (h : Step cx K β s w β' s' w') {N : Nat} {fr : Bool} (x : C) (v : Value) (hr : Rep (Go.Proofs.YtcaahmielncmpaaGreat.okA N (Mut cx β s) w fr) w x v) :
    Rep (Go.Proofs.YtcaahmielncmpaaGreat.okA N (Mut cx β' s') w' fr) w' x v := hr.mono h.okA h.cells

theorem Step.gC (h : Step cx K β s w β' s' w') {x : AC} {v : Value} (hx : x.wf K) (hr : gC cx β s w x v) : Go.Proofs.YtcaahmielncmpaaGreat.gC cx β' s' w' x v := by
  cases x with
  | c x fr => exact h.rep x v hr
  | nils => exact hr
  | ptr id off =>
    refine ⟨hr.1, fun hl => ?_⟩
    obtain ⟨h1, h2⟩ := h.live id hx hl
    rw [h2]; exact hr.2 h1
  | el id sz i off =>
    refine ⟨hr.1, fun hl => ?_⟩
    obtain ⟨h1, h2⟩ := h.live id hx hl
    rw [h2]; exact hr.2 h1
  | arr id =>
    refine ⟨hr.1, fun hl => ?_⟩
    obtain ⟨h1, h2⟩ := h.live id hx hl
    rw [h2]; exact hr.2 h1
  | ro xs =>
    obtain ⟨b, off, h1, h2, h3, h4⟩ := hr
    refine ⟨b, off, h1, Nat.lt_of_lt_of_le h2 h.size, fun hm => h3 (h.muts b h2 hm), h4.mono h.okA h.cells ?_⟩
    intro o v hc
    rw [cell_of_heap (h.keep b h2 h3)]
    exact hc
  | nilp => exact hr
  | fn f id =>
    refine ⟨hr.1, fun hl => ?_⟩
    obtain ⟨h1, h2⟩ := h.live id hx hl
    rw [h2]; exact hr.2 h1
  | pre id n =>
    refine ⟨hr.1, fun hl => ?_⟩
    obtain ⟨h1, h2⟩ := h.live id hx hl
    rw [h2]; exact hr.2 h1
  | fb o => exact FB.keep (Nat.le_refl _) h.keep (fun k _ => h.muts k) hr
  | any => exact hr

theorem All2.mono' {α β' : Type} {R R' : α → β' → Prop} {l : List α} {m : List β'} (h : All2 R l m) (hr : ∀ a b, a ∈ l → R a b → R' a b) : All2 R' l m := by
  induction h with
  | nil => exact .nil
  | cons h _ ih => exact .cons (hr _ _ List.mem_cons_self h) (ih fun a b ha => hr a b (List.mem_cons_of_mem _ ha))

theorem Step.g1 (h : Step cx K β s w β' s' w') {x : A1} {v : Value} (hx : x.wf K) (hr : g1 cx β s w x v) : Go.Proofs.YtcaahmielncmpaaGreat.g1 cx β' s' w' x v := by
  cases x with
  | one x => exact h.gC hx hr
  | agg xs =>
    obtain ⟨vs, h1, h2⟩ := hr
    exact ⟨vs, h1, h2.mono' fun a b ha => h.gC (hx a ha)⟩

theorem Step.gV (h : Step cx K β s w β' s' w') {x : AV} {v : Value} (hx : x.wf K) (hr : gV cx β s w x v) : Go.Proofs.YtcaahmielncmpaaGreat.gV cx β' s' w' x v := by
  cases x with
  | v x => exact h.g1 hx hr
  | tup xs =>
    obtain ⟨vs, h1, h2⟩ := hr
    exact ⟨vs, h1, h2.mono' fun a b ha => h.g1 (hx a ha)⟩
  | undef => exact hr
  | old x => exact hr
  | sh x => exact hr
  | rp x => exact hr

/-- An object whose own block is as it was. -/
theorem Step.gO (h : Step cx K β s w β' s' w') {o : Ob} {bv : Value} (hx : o.wf K) (hb : ∀ b, blkOf bv = some b → w'.heap[b]? = w.heap[b]?) (hr : gO cx β s w bv o) : Go.Proofs.YtcaahmielncmpaaGreat.gO cx β' s' w' bv o := by
  cases o with
  | box cells =>
    obtain ⟨b, T, vs, h1, h2, h3, h4⟩ := hr
    exact ⟨b, T, vs, h1, h2, by rw [hb b (by rw [h1]; rfl)]; exact h3, h4.mono' fun a v ha => h.gC (hx a ha)⟩
  | row e sz rows fr =>
    obtain ⟨h1, h2, xs, h3, h4⟩ := hr
    refine ⟨h1, h2, xs, ?_, h4.mono fun a v => h.rep a v⟩
    refine ⟨h3.1, ?_⟩
    rcases h3.2 with hn | ⟨g, cap, cur, hv, hg, hh, r⟩
    · exact .inl hn
    · exact .inr ⟨g, cap, cur, hv, hg, by rw [hb g (by rw [hv]; rfl)]; exact hh, r⟩

end

theorem AC.wf.mono {K K' : Nat → Prop} (h : ∀ i, K i → K' i) {x : AC} (hx : x.wf K) : x.wf K' := by
  cases x <;> first | exact h _ hx | trivial
theorem A1.wf.mono {K K' : Nat → Prop} (h : ∀ i, K i → K' i) {x : A1} (hx : x.wf K) : x.wf K' := by
  cases x with
  | one x => exact AC.wf.mono h hx
  | agg xs => exact fun y hy => AC.wf.mono h (hx y hy)
theorem AV.wf.mono {K K' : Nat → Prop} (h : ∀ i, K i → K' i) {x : AV} (hx : x.wf K) : x.wf K' := by
  cases x with
  | v x => exact A1.wf.mono h hx
  | tup xs => exact fun y hy => A1.wf.mono h (hx y hy)
  | undef => trivial
  | old x => trivial
  | sh x => trivial
  | rp x => trivial
theorem Ob.wf.mono {K K' : Nat → Prop} (h : ∀ i, K i → K' i) {x : Ob} (hx : x.wf K) : x.wf K' := by
  cases x with
  | box xs => exact fun y hy => AC.wf.mono h (hx y hy)
  | row => trivial

end Go.Proofs.YtcaahmielncmpaaGreat

namespace Go.Proofs.YtcaahmielncmpaaGreat
open Go Go.RowKit

/-! ## What an operation does, on abstract states -/

/-- A value known in advance, as a cell. -/
def acOf : Value → AC
  | .int .i64 n => .c (.int n) true
  | .bool b => .c (.bool b) true
  | .string s => .c (.str s) true
  | .float .f64 x => .c (.flt x) true
  | .slice none 0 0 => .nils
  | .pointer none => .nilp
  | _ => .any

def avOf (v : Value) : Option AV :=
  match v with
  | .agg cs => if cs.toList.all (·.oneCell') then some (.v (.agg (cs.toList.map acOf))) else none
  | .tuple _ => none
  | v => some (.v (.one (acOf v)))

/-- What is asked of a type's row. -/
structure TE where
  size : Nat
  bytes : Nat
  agg : Bool
  isBool : Bool
  isPtr : Bool
  isF64 : Bool
  fok : Bool
  zero : List AC
  elem : Option Nat
  flds : List (Nat × Nat × Bool)
  okf : Bool

def tabOf (P : Program) (T : Nat) : Option TE :=
  match P.info? T, P.underlying T with
  | some i, some d =>
    match i.zero with
    | some z =>
      if z.cells.size = i.size ∧ z.cells.toList.all (·.oneCell') = true then
        some { size := i.size, bytes := i.bytes, zero := z.cells.toList.map acOf
               agg := match d with | .struct _ | .array _ _ => true | _ => false
               isBool := match d with | .bool => true | _ => false
               isPtr := match d with | .pointer _ => true | _ => false
               isF64 := match d with | .float .f64 => true | _ => false
               fok := match d with | .struct fs => fs.toList.all (fun f => (P.underlying f.type).isSome) | _ => false
               elem := match d with | .slice e => some e | _ => none
               flds := match d with | .struct fs => fs.toList.map (fun f => (f.offset, ((P.info? f.type).map (·.size)).getD 0, match P.underlying f.type with | some (.struct _) | some (.array _ _) | none => true | _ => false)) | _ => []
               okf := match d with | .struct fs => fs.toList.all (fun f => (P.info? f.type).isSome) | _ => false }
      else none
    | none => none
  | _, _ => none

def argAV : IV → AV
  | .one x => .v (.one (.c x false))
  | .agg xs => .v (.agg (xs.map (.c · false)))
  | .ro xs => .v (.one (.ro xs))

/-- What was known of a slot at the beginning, seen now. -/
def AV.now : AV → AV
  | .old x => argAV x
  | y => y

def AS.ev (s : AS) : Operand → Option AV
  | .tmp t => (s.get t).map AV.now
  | .const v => avOf v
  | _ => none

abbrev iv (n : Int) : AV := .v (.one (.c (.int n) true))
abbrev bv (b : Bool) : AV := .v (.one (.c (.bool b) true))

def InI64 (n : Int) : Prop := -9223372036854775808 ≤ n ∧ n ≤ 9223372036854775807

structure Eff where
  val : AV
  ups : List (Nat × Option Ob) := []
  rd : List Nat := []
  side : Prop := True

def A1.cells : A1 → List AC
  | .one x => [x]
  | .agg xs => xs

/-- A cell as immutable data: the datum, is it new, the objects that are lent. -/
def AS.resC (s : AS) : AC → Option (C × Bool × List Nat)
  | .c x fr => some (x, fr || x.flat, [])
  | .nils => some (.slice [], true, [])
  | .arr id => match s.obj id with
    | some (.row _ _ rows fr) => some (.slice rows, fr, [id])
    | _ => none
  | .pre id n => match s.obj id with
    | some (.row _ _ rows fr) => some (.slice (rows.take n), fr, [id])
    | _ => none
  | _ => none

def AS.resCs (s : AS) : List AC → Option (List C × Bool × List Nat)
  | [] => some ([], true, [])
  | x :: xs => match s.resC x, s.resCs xs with
    | some (c, f, i), some (cs, f', i') => some (c :: cs, f && f', i ++ i')
    | _, _ => none

/-- The cells behind a pointer; the objects looked at; what is to be shown. -/
def AS.behind (s : AS) : AV → Option (List AC × List Nat × Prop)
  | .v (.one (.ptr id off)) => match s.obj id with
    | some (.box cells) => some (cells.drop off, [id], True)
    | _ => none
  | .v (.one (.el id sz i off)) => match s.obj id with
    | some (.row _ sz' rows fr) => if sz' = sz then some (((rows.getD i []).drop off).map (.c · fr), [id], i < rows.length) else none
    | _ => none
  | .v (.one (.ro xs)) => some (xs.map (.c · false), [], True)
  | .rp xs => some (xs.map (.c · false), [], True)
  | _ => none

def splice {α : Type} (l : List α) (off : Nat) (m : List α) : List α :=
  if off = 0 ∧ m.length = l.length then m else l.take off ++ m ++ l.drop (off + m.length)

def effBin (P : Program) (op : BinOp) (xT : Nat) : AV → AV → Option Eff
  | .v (.one (.c (.int a) _)), .v (.one (.c (.int b) _)) =>
    match op with
    | .add => some { val := iv (IntKind.i64.wrap (a + b)) }
    | .sub => some { val := iv (a - b), side := InI64 (a - b) }
    | .eql => some { val := bv (decide (a = b)) }
    | .neq => some { val := bv (!decide (a = b)) }
    | .lss => some { val := bv (decide (a < b)) }
    | .leq => some { val := bv (decide (a ≤ b)) }
    | .gtr => some { val := bv (decide (b < a)) }
    | .geq => some { val := bv (decide (b ≤ a)) }
    | _ => none
  | .v (.one (.c (.bool a) _)), .v (.one (.c (.bool b) _)) =>
    match tabOf P xT with
    | some te => if te.isBool then
        match op with
        | .eql => some { val := bv (a == b) }
        | .neq => some { val := bv (!(a == b)) }
        | _ => none
      else none
    | none => none
  | .v (.one (.c (.str a) _)), .v (.one (.c (.str b) _)) =>
    match op with
    | .eql => some { val := bv (a.toList == b.toList) }
    | .neq => some { val := bv (!(a.toList == b.toList)) }
    | _ => none
  | .v (.one (.c (.flt a) _)), .v (.one (.c (.flt b) _)) =>
    match op with
    | .lss => some { val := bv (FloatKind.f64.format.order a b == some .lt) }
    | .leq => some { val := bv (FloatKind.f64.format.order a b == some .lt || FloatKind.f64.format.order a b == some .eq) }
    | .gtr => some { val := bv (FloatKind.f64.format.order a b == some .gt) }
    | .geq => some { val := bv (FloatKind.f64.format.order a b == some .gt || FloatKind.f64.format.order a b == some .eq) }
    | _ => none
  | .v (.one .nilp), .v (.one .nilp) =>
    match tabOf P xT with
    | some te => if te.isPtr then
        match op with
        | .eql => some { val := bv true }
        | .neq => some { val := bv false }
        | _ => none
      else none
    | none => none
  | .v (.one (.fb o)), .v (.one .nilp) =>
    match tabOf P xT with
    | some te => if te.isPtr then
        match op with
        | .eql => some { val := bv (!o.isSome) }
        | .neq => some { val := bv o.isSome }
        | _ => none
      else none
    | none => none
  | _, _ => none

/-- A pointer to a variable, held against nil. -/
def effPtr (P : Program) (s : AS) (op : BinOp) (xT : Nat) (id : Nat) : Option Eff :=
  match tabOf P xT with
  | some te => if te.isPtr = true ∧ (s.obj id).isSome = true then
      match op with
      | .eql => some { val := bv false, rd := [id] }
      | .neq => some { val := bv true, rd := [id] }
      | _ => none
    else none
  | none => none

/-- The parts of a struct, laid into its zero cells. -/
def fillA (flds : List (Nat × Nat × Bool)) : List (Nat × A1) → List AC → Option (List AC)
  | [], cs => some cs
  | (i, x) :: rest, cs => match flds[i]? with
    | some (off, size, _) => if x.cells.length = size ∧ off + size ≤ cs.length then fillA flds rest (cs.take off ++ x.cells ++ cs.drop (off + size)) else none
    | none => none

/-- The parts of a slice's literal. -/
def AS.fillRows (s : AS) (sz : Nat) : List (Nat × A1) → List (List C) → Bool → Option (List (List C) × Bool × List Nat)
  | [], rows, fr => some (rows, fr, [])
  | (i, x) :: rest, rows, fr => match s.resCs x.cells with
    | some (cs, f, ids) => if cs.length = sz ∧ i < rows.length then
        match s.fillRows sz rest (rows.set i cs) (fr && f) with
        | some (rs, f', ids') => some (rs, f', ids ++ ids')
        | none => none
      else none
    | none => none

def AS.evParts (s : AS) : List (Nat × Operand) → Option (List (Nat × A1))
  | [] => some []
  | (i, x) :: rest => match s.ev x, s.evParts rest with
    | some (.v a), some l => some ((i, a) :: l)
    | _, _ => none

/-- The rows of a slice: the rows, new or not, the objects looked at. -/
def AS.rowsOf (s : AS) : AV → Option (List (List C) × Bool × List Nat)
  | .v (.one (.c (.slice rows) fr)) => some (rows, fr, [])
  | .v (.one .nils) => some ([], true, [])
  | .v (.one (.arr id)) => match s.obj id with
    | some (.row _ _ rows fr) => some (rows, fr, [id])
    | _ => none
  | _ => none

/-- Whether a slice is taken, from its start, of a row of the call's own. -/
def AS.isPre (s : AS) (x : Operand) (lo hi : Option Operand) : Bool :=
  match lo, hi, s.ev x with
  | none, some _, some (.v (.one (.arr _))) => true
  | none, some _, some (.v (.one (.pre _ _))) => true
  | _, _, _ => false
def AS.preOf (s : AS) : AV → Option (Nat × Nat × List (List C))
  | .v (.one (.arr id)) => match s.obj id with
    | some (.row _ sz rows _) => some (id, sz, rows)
    | _ => none
  | .v (.one (.pre id _)) => match s.obj id with
    | some (.row _ sz rows _) => some (id, sz, rows)
    | _ => none
  | _ => none
def AS.preSl (P : Program) (s : AS) (T : TypeId) (x : Operand) (hi : Option Operand) : Option Eff :=
  match tabOf P T, s.ev x, (match hi with | none => none | some o => s.ev o) with
  | some te, some xv, some (.v (.one (.c (.int n) _))) => match te.elem, s.preOf xv with
    | some E, some (id, sz, rows) => match tabOf P E with
      | some tE => if tE.size = sz then some { val := .v (.one (.pre id n.toNat)), rd := [id], side := 0 ≤ n ∧ n ≤ rows.length } else none
      | none => none
    | _, _ => none
  | _, _, _ => none

def effOp (P : Program) (nid : Nat) (op : Op) (s : AS) : Option Eff :=
  match op with
  | .move x | .assign x => match s.ev x with
    | some v => some { val := v }
    | none => none
  | .pick c a b => match s.ev c with
    | some (.v (.one (.c (.bool t) _))) => match (if t then s.ev a else s.ev b) with
      | some v => some { val := v }
      | none => none
    | _ => none
  | .alloc T => match tabOf P T with
    | some te => some { val := .v (.one (.ptr nid 0)), ups := [(nid, some (.box te.zero))] }
    | none => none
  | .box T x => match tabOf P T, s.ev x with
    | some _, some (.v a) => some { val := .v (.one (.ptr nid 0)), ups := [(nid, some (.box a.cells))] }
    | _, _ => none
  | .build T parts => match tabOf P T, s.evParts parts.toList with
    | some te, some ps => match (if te.okf then fillA te.flds ps te.zero else none) with
      | some cs => some { val := .v (.agg cs) }
      | none => none
    | _, _ => none
  | .buildSlice T n parts => match tabOf P T, s.evParts parts.toList with
    | some te, some ps => match te.elem with
      | some E => match tabOf P E with
        | some tE => match s.resCs tE.zero with
          | some (z, _, _) => match (if 0 < tE.size ∧ n * tE.size ≤ 16777216 then s.fillRows tE.size ps (List.replicate n z) true else none) with
            | some (rows, fr, ids) => some { val := .v (.one (.arr nid)), ups := ids.map (·, none) ++ [(nid, some (.row E tE.size rows fr))], rd := ids }
            | none => none
          | none => none
        | none => none
      | none => none
    | _, _ => none
  | .load T p => match tabOf P T, s.ev p with
    | some te, some pv => match s.behind pv with
      | some (cells, ids, side) =>
        if te.agg then
          if cells.length = te.size then some { val := .v (.agg cells), rd := ids, side := side }
          else if te.size ≤ cells.length then some { val := .v (.agg (cells.take te.size)), rd := ids, side := side }
          else none
        else match cells with
          | x :: _ => some { val := .v (.one x), rd := ids, side := side }
          | [] => none
      | none => none
    | _, _ => none
  | .store T p x => match tabOf P T, s.ev p, s.ev x with
    | some te, some (.v (.one (.ptr id off))), some (.v a) => match s.obj id with
      | some (.box cells) =>
        if a.cells.length = te.size ∧ off + te.size ≤ cells.length then
          some { val := .undef, ups := [(id, some (.box (splice cells off a.cells)))] }
        else none
      | _ => none
    | some te, some (.v (.one (.el id sz i off))), some (.v a) => match s.obj id, s.resCs a.cells with
      | some (.row e sz' rows fr), some (cs, f, ids) =>
        if sz' = sz ∧ cs.length = te.size ∧ off + te.size ≤ sz ∧ id ∉ ids then
          some { val := .undef, ups := ids.map (·, none) ++ [(id, some (.row e sz (rows.set i (splice (rows.getD i []) off cs)) (fr && f)))], rd := ids, side := i < rows.length }
        else none
      | _, _ => none
    | _, _, _ => none
  | .nilCheck x => match s.ev x with
    | some (.v (.one (.ptr id off))) => if (s.obj id).isSome then some { val := .v (.one (.ptr id off)), rd := [id] } else none
    | some (.v (.one (.ro xs))) => some { val := .v (.one (.ro xs)) }
    | _ => none
  | .binOp op xT x y _ => match s.ev x, s.ev y with
    | some (.v (.one (.ptr id _))), some (.v (.one .nilp)) => effPtr P s op xT id
    | some a, some b => effBin P op xT a b
    | _, _ => none
  | .convert S T x => match tabOf P S, tabOf P T, s.ev x with
    | some _, some te, some (.v (.one (.c (.int n) _))) => if te.isF64 then some { val := .v (.one (.c (.flt (FloatKind.f64.nearest n)) true)) } else none
    | _, _, _ => none
  | .unOp .not _ x => match s.ev x with
    | some (.v (.one (.c (.bool b) _))) => some { val := bv (!b) }
    | _ => none
  | .makeSlice T l c => match tabOf P T, s.ev l, s.ev c with
    | some te, some (.v (.one (.c (.int l) _))), some (.v (.one (.c (.int c) _))) => match te.elem with
      | some E => match tabOf P E with
        | some tE => match s.resCs tE.zero with
          | some (z, _, _) => if 0 < tE.size then
              some { val := .v (.one (.arr nid)), ups := [(nid, some (.row E tE.size (List.replicate l.toNat z) true))]
                     side := 0 ≤ l ∧ l ≤ c ∧ tE.bytes * c ≤ 281474976710656 ∧ c ≤ 9223372036854775807 }
            else none
          | none => none
        | none => none
      | none => none
    | _, _, _ => none
  | .slice T x lo hi none => if s.isPre x lo hi = true then s.preSl P T x hi else match tabOf P T, s.ev x with
    | some te, some xv => match te.elem, s.rowsOf xv with
      | some E, some (rows, fr, ids) => match tabOf P E, (match lo with | none => some (iv 0) | some o => s.ev o), (match hi with | none => some (iv rows.length) | some o => s.ev o) with
        | some tE, some (.v (.one (.c (.int l) _))), some (.v (.one (.c (.int h) _))) =>
          some { val := .v (.one (.c (.slice ((rows.take h.toNat).drop l.toNat)) (fr && decide (l = 0)))), ups := ids.map (·, none), rd := ids
                 side := 0 ≤ l ∧ l ≤ h ∧ h ≤ rows.length ∧ ∀ r ∈ rows, r.length = tE.size }
        | _, _, _ => none
      | _, _ => none
    | _, _ => none
  | .fieldAddr T p f => match tabOf P T, s.ev p with
    | some te, some (.v (.one pv)) => match te.flds[f]? with
      | some (off, size, _) => if size = 0 then none else match pv with
        | .ptr id o => if (s.obj id).isSome then some { val := .v (.one (.ptr id (o + off))), rd := [id] } else none
        | .el id sz i o => if (s.obj id).isSome then some { val := .v (.one (.el id sz i (o + off))), rd := [id] } else none
        | .ro xs => some { val := .v (.one (.ro (xs.drop off))) }
        | _ => none
      | none => none
    | _, _ => none
  | .field T x f => match tabOf P T, s.ev x with
    | some te, some (.v (.agg cells)) => match te.flds[f]? with
      | some (off, size, ag) => if ag = false then match cells[off]? with
          | some c => some { val := .v (.one c) }
          | none => none
        else if 0 < size ∧ te.fok = true then some { val := .v (.agg ((cells.drop off).take size)) } else none
      | none => none
    | _, _ => none
  | .indexAddr T x i => match tabOf P T, s.ev x, s.ev i with
    | some te, some (.sh rows), some (.v (.one (.c (.int n) _))) => match te.elem with
      | some E => match tabOf P E with
        | some tE => some { val := .rp (rows.getD n.toNat []), side := 0 ≤ n ∧ n < rows.length ∧ (rows.getD n.toNat []).length = tE.size }
        | none => none
      | none => none
    | some te, some (.v (.one xv)), some (.v (.one (.c (.int n) _))) => match te.elem with
      | some E => match tabOf P E with
        | some tE => match xv with
          | .c (.slice rows) _ => some { val := .v (.one (.ro (rows.getD n.toNat []))), side := 0 ≤ n ∧ n < rows.length ∧ (rows.getD n.toNat []).length = tE.size }
          | .arr id => match s.obj id with
            | some (.row _ sz rows _) => if sz = tE.size then some { val := .v (.one (.el id sz n.toNat 0)), rd := [id], side := 0 ≤ n ∧ n < rows.length } else none
            | _ => none
          | .pre id m => match s.obj id with
            | some (.row _ sz rows _) => if sz = tE.size then some { val := .v (.one (.el id sz n.toNat 0)), rd := [id], side := 0 ≤ n ∧ n < m ∧ m ≤ rows.length } else none
            | _ => none
          | _ => none
        | none => none
      | none => none
    | _, _, _ => none
  | .makeFunc (.func f) first cap => match first.toList, cap.toList with
    | [], [x] => match s.ev x with
      | some (.v (.one (.ptr id 0))) => if (s.obj id).isSome = true then some { val := .v (.one (.fn f id)), rd := [id] } else none
      | _ => none
    | _, _ => none
  | .extract x i => match s.ev x with
    | some (.tup xs) => match xs[i]? with
      | some y => some { val := .v y }
      | none => none
    | _ => none
  | .call { callee := .builtin b, args := args, argTypes := ts } =>
    match b, args.toList, ts.toList with
    | .len, [x], [T] => match tabOf P T, s.ev x with
      | some te, some (.sh rows) => if te.elem.isSome then some { val := iv rows.length } else none
      | some te, some xv => if te.elem.isSome then match s.rowsOf xv with
          | some (rows, _, ids) => some { val := iv rows.length, rd := ids }
          | none => none
        else match P.underlying T, xv with
          | some .string, .v (.one (.c (.str b) _)) => some { val := iv b.size }
          | _, _ => none
      | _, _ => none
    | .max, [x, y], _ => match s.ev x, s.ev y with
      | some (.v (.one (.c (.int a) _))), some (.v (.one (.c (.int b) _))) => some { val := iv (max a b) }
      | _, _ => none
    | .min, [x, y], _ => match s.ev x, s.ev y with
      | some (.v (.one (.c (.int a) _))), some (.v (.one (.c (.int b) _))) => some { val := iv (min a b) }
      | _, _ => none
    | .append, [x, y], [T, T'] => if T ≠ T' then none else match tabOf P T, s.ev x, s.ev y with
      | some te, some xv, some yv => match te.elem with
        | some E => match tabOf P E, s.rowsOf yv with
          | some tE, some (new, f, ids) => if 0 < tE.size then match xv with
              | .v (.one .nils) => some { val := .v (.one (.arr nid)), ups := [(nid, some (.row E tE.size new f))], rd := ids
                                          side := new.length * tE.bytes ≤ 140737488355328 ∧ new.length ≤ 9223372036854775807 ∧ ∀ r ∈ new, r.length = tE.size }
              | .v (.one (.arr id)) => match s.obj id with
                | some (.row e sz rows fr) => if e = E ∧ sz = tE.size ∧ id ∉ ids then
                    some { val := .v (.one (.arr nid)), ups := [(id, none), (nid, some (.row E tE.size (rows ++ new) (fr && f)))], rd := id :: ids
                           side := (rows.length + new.length) * tE.bytes ≤ 140737488355328 ∧ rows.length + new.length ≤ 9223372036854775807 ∧ ∀ r ∈ new, r.length = tE.size }
                  else none
                | _ => none
              | _ => none
            else none
          | _, _ => none
        | none => none
      | _, _, _ => none
    | _, _, _ => none
  | _ => none

def AS.ups (s : AS) (l : List (Nat × Option Ob)) : AS := { s with heap := l.reverse ++ s.heap }
def AS.put (s : AS) (d : Option Nat) (v : AV) : AS := match d with
  | some d => { s with env := (d, v) :: s.env }
  | none => s

end Go.Proofs.YtcaahmielncmpaaGreat

namespace Go.Proofs.YtcaahmielncmpaaGreat
open Go Go.RowKit

/-! ## Look-ups -/
theorem AS.obj_up (s : AS) (i : Nat) (o : Option Ob) (j : Nat) : (s.ups [(i, o)]).obj j = if j = i then o else s.obj j := by
  unfold AS.obj AS.ups
  simp only [List.reverse_singleton, List.singleton_append, List.lookup_cons]
  by_cases h : j = i
  · subst h; simp
  · have : (j == i) = false := by simpa using h
    simp [this, h]

theorem AS.get_ups (s : AS) (l : List (Nat × Option Ob)) (t : Nat) : (s.ups l).get t = s.get t := rfl

theorem AS.get_put (s : AS) (d : Nat) (v : AV) (t : Nat) : (s.put (some d) v).get t = if t = d then some v else s.get t := by
  unfold AS.get AS.put
  simp only [List.lookup_cons]
  by_cases h : t = d
  · subst h; simp
  · have : (t == d) = false := by simpa using h
    simp [this, h]

theorem AS.obj_put (s : AS) (d : Option Nat) (v : AV) (i : Nat) : (s.put d v).obj i = s.obj i := by cases d <;> rfl

theorem AS.ups_cons (s : AS) (p : Nat × Option Ob) (l : List (Nat × Option Ob)) : s.ups (p :: l) = (s.ups [p]).ups l := by
  simp [AS.ups]

theorem AS.ups_nil (s : AS) : s.ups [] = s := by cases s; rfl

theorem AS.ups_append (s : AS) (l m : List (Nat × Option Ob)) : s.ups (l ++ m) = (s.ups l).ups m := by
  simp [AS.ups]

/-- Objects let go. -/
theorem AS.obj_kill (ids : List Nat) : ∀ (s : AS) (j : Nat), (s.ups (ids.map (·, none))).obj j = if j ∈ ids then none else s.obj j := by
  induction ids with
  | nil => intro s j; simp [AS.ups_nil]
  | cons i ids ih =>
    intro s j
    rw [List.map_cons, AS.ups_cons, ih, AS.obj_up]
    by_cases h1 : j ∈ ids <;> by_cases h2 : j = i <;> simp [h1, h2]

/-! ## Values known in advance -/
theorem gC_acOf {cx : Cx} {β : Nat → Value} {s : AS} {w : World} (v : Value) (h : v.oneCell' = true) : gC cx β s w (acOf v) v := by
  unfold acOf
  split <;> simp_all [gC, Rep]

theorem wf_acOf {K : Nat → Prop} (v : Value) : (acOf v).wf K := by
  unfold acOf
  split <;> trivial

theorem gV_avOf {cx : Cx} {β : Nat → Value} {s : AS} {w : World} {v : Value} {av : AV} (h : avOf v = some av) : gV cx β s w av v := by
  unfold avOf at h
  split at h
  · rename_i cs
    split at h
    · rename_i hc
      cases h
      refine ⟨cs.toList, by simp, All2.mk (by simp) fun i x y h1 h2 => ?_⟩
      rw [List.getElem?_map, h2] at h1
      cases h1
      exact gC_acOf y ((List.all_eq_true.1 hc) y (List.mem_of_getElem? h2))
    · cases h
  · cases h
  · rename_i h1 h2
    cases h
    refine gC_acOf v ?_
    cases v <;> first | rfl | exact (h1 _ rfl).elim | exact (h2 _ rfl).elim

theorem wf_avOf {K : Nat → Prop} {v : Value} {av : AV} (h : avOf v = some av) : av.wf K := by
  unfold avOf at h
  split at h
  · split at h
    · cases h
      intro x hx
      obtain ⟨y, _, rfl⟩ := List.mem_map.1 hx
      exact wf_acOf y
    · cases h
  · cases h
  · cases h
    exact wf_acOf v

section
variable {cx : Cx} {K : Nat → Prop} {β : Nat → Value} {s : AS} {a : Act} {w : World}

/-- Data of the beginning are data still. -/
theorem gI_now (hg : Good cx β K s a w) {x : IV} {v : Value} (h : gI 0 cx.S cx.w0 false x v) : gV cx β s w (argAV x) v := by
  have hb : ∀ b, b < cx.w0.heap.size → ¬ cx.S b → ¬ Mut cx β s b := by
    rintro b h1 h2 (h3 | ⟨id, o, h3, h4⟩)
    · exact h2 h3
    · have h5 := hg.objs id o h3
      have : cx.N ≤ b := by
        cases o with
        | box cells =>
          obtain ⟨b', T, vs, q1, q2, _⟩ := h5
          rw [q1] at h4
          simp [blkOf] at h4
          omega
        | row e sz rows fr =>
          obtain ⟨_, _, xs, q1, _⟩ := h5
          rcases q1.2 with ⟨q2, _⟩ | ⟨g, cap, cur, q2, q3, _⟩
          · rw [q2] at h4; simp [blkOf] at h4
          · rw [q2] at h4; simp [blkOf] at h4; omega
      unfold Cx.N at this
      omega
  have hM : ∀ (b off : Nat), okA 0 cx.S cx.w0 false b off → okA cx.F (Mut cx β s) w false b off := fun b off ho =>
    ⟨Nat.lt_of_lt_of_le ho.1 hg.ext.size, hb b ho.1 ho.2.1, fun h => by cases h⟩
  have hcell : ∀ b, b < cx.w0.heap.size → ∀ o v, cx.w0.cell? ⟨b, o, none⟩ = some v → w.cell? ⟨b, o, none⟩ = some v := fun b hlt o v hc => by
    rw [cell_of_heap (hg.ext.block b hlt)]; exact hc
  have hc : ∀ (b off : Nat), okA 0 cx.S cx.w0 false b off → ∀ o v, cx.w0.cell? ⟨b, o, none⟩ = some v → w.cell? ⟨b, o, none⟩ = some v := fun b off ho => hcell b ho.1
  cases x with
  | one x => exact h.mono hM hc
  | agg xs =>
    obtain ⟨us, h5, h6⟩ := h
    exact ⟨us, h5, All2.map_left (fun x => AC.c x false) (h6.mono fun _ _ r => r.mono hM hc)⟩
  | ro xs =>
    obtain ⟨b, off, k1, k2, k3, k4⟩ := h
    exact ⟨b, off, k1, Nat.lt_of_lt_of_le k2 hg.ext.size, hb b k2 k3, k4.mono hM hc (hcell b k2)⟩
theorem wf_argAV (x : IV) : (argAV x).wf K := by
  cases x with
  | one x => trivial
  | agg xs =>
    intro y hy
    obtain ⟨z, _, rfl⟩ := List.mem_map.1 hy
    trivial
  | ro xs => trivial
theorem gV_now (hg : Good cx β K s a w) {av : AV} {v : Value} (h : gV cx β s w av v) (hw : av.wf K) : gV cx β s w av.now v ∧ av.now.wf K := by
  cases av with
  | old x => exact ⟨gI_now hg h, wf_argAV x⟩
  | _ => exact ⟨h, hw⟩

theorem ev_sound (hg : Good cx β K s a w) {x : Operand} {av : AV} (h : s.ev x = some av) : gV cx β s w av (a.eval x) ∧ av.wf K := by
  cases x with
  | tmp t =>
    obtain ⟨av0, h0, rfl⟩ := Option.map_eq_some_iff.1 h
    obtain ⟨v, h1, h2⟩ := hg.slots t av0 h0
    have : a.eval (.tmp t) = v := by
      show a.tmps.getD t Go.undef = v
      simp [Array.getD_eq_getD_getElem?, h1]
    rw [this]
    exact gV_now hg h2 (hg.wf.env t av0 h0)
  | const v => exact ⟨gV_avOf h, wf_avOf h⟩
  | global g => cases h
  | func f => cases h

/-- The block of a live object. -/
theorem Good.blk (hg : Good cx β K s a w) {id : Nat} {o : Ob} (ho : s.obj id = some o) {b : Nat} (hb : blkOf (β id) = some b) :
    cx.N ≤ b ∧ b < w.heap.size ∧ ∃ cs T, w.heap[b]? = some (.cells cs T (0, 0)) := by
  have h := hg.objs id o ho
  cases o with
  | box cells =>
    obtain ⟨b', T, vs, h1, h2, h3, _⟩ := h
    rw [h1] at hb
    simp [blkOf] at hb
    subst hb
    exact ⟨h2, (Array.getElem?_eq_some_iff.1 h3).1, _, _, h3⟩
  | row e sz rows fr =>
    obtain ⟨_, _, xs, h3, _⟩ := h
    rcases h3.2 with ⟨hn, _⟩ | ⟨g, cap, cur, hv, hgg, hh, r⟩
    · rw [hn] at hb; simp [blkOf] at hb
    · rw [hv] at hb
      simp [blkOf] at hb
      subst hb
      exact ⟨hgg, (Array.getElem?_eq_some_iff.1 hh).1, _, _, hh⟩

theorem Good.mut_lt (hg : Good cx β K s a w) {b : Nat} (hb : Mut cx β s b) : b < w.heap.size := by
  rcases hb with h | ⟨id, o, ho, hb⟩
  · exact Nat.lt_of_lt_of_le (hg.sb b h) hg.ext.size
  · exact (hg.blk ho hb).2.1

/-! ## From rows of cells to data, and back -/
theorem RepRows.of_flat {ok : Nat → Nat → Prop} {b sz : Nat} : ∀ {rows : List (List C)} {xs : List Value} {off : Nat}, (∀ r ∈ rows, r.length = sz) →
    All2 (Rep ok w) rows.flatten xs → (∀ j u, xs[j]? = some u → w.cell? ⟨b, off + j, none⟩ = some u) → RepRows ok w b sz rows off
  | [], _, _, _, _, _ => by simp only [RepRows]
  | r :: rs, xs, off, hr, h, hc => by
    simp only [RepRows]
    have hl : r.length = sz := hr r (by simp)
    have h1 := h.take sz
    have h2 := h.drop sz
    simp only [List.flatten_cons] at h1 h2
    rw [← hl, List.take_left] at h1
    rw [← hl, List.drop_left] at h2
    refine ⟨hl, RepRow.mk fun j c hj => ?_, RepRows.of_flat (fun r' h' => hr r' (by simp [h'])) h2 fun j u hu => ?_⟩
    · obtain ⟨v, h3, h4⟩ := h1.get j c hj
      refine ⟨v, hc j v ?_, h4⟩
      rw [List.getElem?_take] at h3
      split at h3
      · exact h3
      · cases h3
    · rw [Nat.add_assoc]
      refine hc _ u ?_
      rw [List.getElem?_drop] at hu
      rw [← hl]; exact hu

theorem RepRow.flat {ok : Nat → Nat → Prop} {b : Nat} : ∀ {r : List C} {off : Nat}, RepRow ok w b r off → ∃ xs : List Value, All2 (Rep ok w) r xs ∧ ∀ j u, xs[j]? = some u → w.cell? ⟨b, off + j, none⟩ = some u
  | [], off, _ => ⟨[], .nil, fun j u h => by simp at h⟩
  | c :: cs, off, h => by
    simp only [RepRow] at h
    obtain ⟨⟨v, h1, h2⟩, h3⟩ := h
    obtain ⟨xs, h4, h5⟩ := h3.flat
    refine ⟨v :: xs, .cons h2 h4, fun j u hj => ?_⟩
    cases j with
    | zero => simp at hj; subst hj; simpa using h1
    | succ j =>
      simp at hj
      have := h5 j u hj
      rwa [show off + (j + 1) = off + 1 + j by omega]

theorem RepRows.flat {ok : Nat → Nat → Prop} {b sz : Nat} : ∀ {rows : List (List C)} {off : Nat}, RepRows ok w b sz rows off →
    ∃ xs : List Value, xs.length = rows.length * sz ∧ All2 (Rep ok w) rows.flatten xs ∧ ∀ j u, xs[j]? = some u → w.cell? ⟨b, off + j, none⟩ = some u
  | [], off, _ => ⟨[], by simp, .nil, fun j u h => by simp at h⟩
  | r :: rs, off, h => by
    simp only [RepRows] at h
    obtain ⟨hl, h1, h2⟩ := h
    obtain ⟨xs, h3, h4⟩ := h1.flat
    obtain ⟨ys, h5, h6, h7⟩ := h2.flat
    have hx : xs.length = sz := by rw [← h3.length, hl]
    refine ⟨xs ++ ys, by simp [hx, h5, Nat.add_mul]; omega, by simpa using h3.append h6, fun j u hj => ?_⟩
    rw [List.getElem?_append] at hj
    split at hj
    · exact h4 j u hj
    · have := h7 _ u hj
      rwa [show off + sz + (j - xs.length) = off + j by omega] at this

theorem ownsRow_cells {e sz n : Nat} {g : Nat} {cur : Array Value} {xs : List Value} (hh : w.heap[g]? = some (.cells cur e (0, 0))) (ht : cur.toList.take (n * sz) = xs) :
    ∀ j u, xs[j]? = some u → w.cell? ⟨g, j, none⟩ = some u := by
  intro j u hu
  rw [← ht, List.getElem?_take] at hu
  split at hu
  · simp [World.cell?, hh]; simpa using hu
  · cases hu

/-! ## Cells as immutable data -/
theorem okA.weaken {N : Nat} {M M' : Nat → Prop} (h : ∀ b, M' b → M b) {fr fr' : Bool} (hf : fr' = true → fr = true) {b off : Nat} (ho : okA N M w fr b off) : okA N M' w fr' b off :=
  ⟨ho.1, fun hm => ho.2.1 (h b hm), fun h' => ho.2.2 (hf h')⟩

theorem Rep.weaken {N : Nat} {M M' : Nat → Prop} (h : ∀ b, M' b → M b) {fr fr' : Bool} (hf : fr' = true → fr = true) {x : C} {v : Value} (hr : Rep (okA N M w fr) w x v) : Rep (okA N M' w fr') w x v :=
  hr.mono (fun _ _ ho => ho.weaken h hf) (fun _ _ _ _ _ hc => hc)

theorem row_rep (hg : Good cx β K s a w) {id e sz : Nat} {rows : List (List C)} {fr : Bool} (ho : s.obj id = some (.row e sz rows fr)) {M' : Nat → Prop} (hM : ∀ b, M' b → Mut cx β s b)
    (hid : ∀ b, blkOf (β id) = some b → ¬ M' b) : Rep (okA cx.F M' w fr) w (.slice rows) (β id) := by
  obtain ⟨h1, h2, xs, h3, h4⟩ := hg.objs id _ ho
  simp only [Rep]
  rcases h3.2 with ⟨hn, h0⟩ | ⟨g, cap, cur, hv, hgg, hh, r1, r2, r3, r4⟩
  · exact ⟨none, 0, by rw [hn, h0], by omega, .inl (List.eq_nil_of_length_eq_zero h0)⟩
  · refine ⟨_, cap, hv, r1, .inr ⟨g, 0, sz, rfl, ⟨(Array.getElem?_eq_some_iff.1 hh).1, hid g (by rw [hv]; rfl), fun _ => ⟨Nat.le_trans hg.fb hgg, rfl, _, _, hh⟩⟩, ?_⟩⟩
    refine RepRows.of_flat h2 (h4.mono fun x v hr => hr.weaken hM (fun h => h)) fun j u hu => ?_
    rw [Nat.zero_add]
    exact ownsRow_cells hh r4 j u hu

theorem pre_rep (hg : Good cx β K s a w) {id e sz n : Nat} {rows : List (List C)} {fr : Bool} (ho : s.obj id = some (.row e sz rows fr)) {v : Value} (hx : gC cx β s w (.pre id n) v) {M' : Nat → Prop} (hM : ∀ b, M' b → Mut cx β s b)
    (hid : ∀ b, blkOf (β id) = some b → ¬ M' b) : Rep (okA cx.F M' w fr) w (.slice (rows.take n)) v := by
  have h0 := row_rep hg ho hM hid
  obtain ⟨ao, m, cap, h1, h2, rfl⟩ := hx.2 (by rw [ho]; rfl)
  rw [h1] at h0
  simp only [Rep] at h0 ⊢
  obtain ⟨ao', cap', h3, h4, h5⟩ := h0
  cases h3
  refine ⟨ao, cap, by simp; omega, by simp; omega, ?_⟩
  rcases h5 with h5 | ⟨b, off, sz', h6, h7, h8⟩
  · exact .inl (by rw [h5]; simp)
  · refine .inr ⟨b, off, sz', h6, h7, RepRows.mk fun j r hj => ?_⟩
    rw [List.getElem?_take] at hj
    split at hj
    · exact h8.get j r hj
    · cases hj

theorem resC_sound (hg : Good cx β K s a w) {x : AC} {v : Value} {c : C} {fr : Bool} {ids : List Nat} (h : s.resC x = some (c, fr, ids)) (hx : gC cx β s w x v)
    {M' : Nat → Prop} (hM : ∀ b, M' b → Mut cx β s b) (hid : ∀ id ∈ ids, ∀ b, blkOf (β id) = some b → ¬ M' b) : Rep (okA cx.F M' w fr) w c v := by
  cases x with
  | c x f =>
    simp only [AS.resC, Option.some.injEq, Prod.mk.injEq] at h
    obtain ⟨rfl, rfl, rfl⟩ := h
    by_cases hf : x.flat = true
    · exact Rep.flat hf hx
    · exact Rep.weaken hM (fun h => by simpa [hf] using h) hx
  | nils =>
    simp only [AS.resC, Option.some.injEq, Prod.mk.injEq] at h
    obtain ⟨rfl, rfl, rfl⟩ := h
    simp only [Rep]
    exact ⟨none, 0, hx, Nat.le_refl _, .inl (by trivial)⟩
  | arr id =>
    simp only [AS.resC] at h
    cases ho : s.obj id with
    | none => rw [ho] at h; cases h
    | some o =>
      rw [ho] at h
      cases o with
      | box => cases h
      | row e sz rows f =>
        simp only [Option.some.injEq, Prod.mk.injEq] at h
        obtain ⟨rfl, rfl, rfl⟩ := h
        rw [hx.2 (by rw [ho]; rfl)]
        exact row_rep hg ho hM (hid id (by simp))
  | pre id n =>
    simp only [AS.resC] at h
    cases ho : s.obj id with
    | none => rw [ho] at h; cases h
    | some o =>
      rw [ho] at h
      cases o with
      | box => cases h
      | row e sz rows f =>
        simp only [Option.some.injEq, Prod.mk.injEq] at h
        obtain ⟨rfl, rfl, rfl⟩ := h
        exact pre_rep hg ho hx hM (hid id (by simp))
  | fb => cases h
  | ptr => cases h
  | el => cases h
  | ro => cases h
  | nilp => cases h
  | fn => cases h
  | any => cases h

theorem resC_live {x : AC} {c : C} {fr : Bool} {ids : List Nat} (h : s.resC x = some (c, fr, ids)) : ∀ id ∈ ids, ∃ o, s.obj id = some o := by
  cases x with
  | arr id =>
    simp only [AS.resC] at h
    cases ho : s.obj id with
    | none => rw [ho] at h; cases h
    | some o =>
      rw [ho] at h
      cases o with
      | box => cases h
      | row e sz rows f =>
        simp only [Option.some.injEq, Prod.mk.injEq] at h
        obtain ⟨rfl, rfl, rfl⟩ := h
        intro i hi
        simp at hi; subst hi
        exact ⟨_, ho⟩
  | pre id n =>
    simp only [AS.resC] at h
    cases ho : s.obj id with
    | none => rw [ho] at h; cases h
    | some o =>
      rw [ho] at h
      cases o with
      | box => cases h
      | row e sz rows f =>
        simp only [Option.some.injEq, Prod.mk.injEq] at h
        obtain ⟨rfl, rfl, rfl⟩ := h
        intro i hi
        simp at hi; subst hi
        exact ⟨_, ho⟩
  | fb => cases h
  | c => simp only [AS.resC, Option.some.injEq, Prod.mk.injEq] at h; obtain ⟨_, _, rfl⟩ := h; simp
  | nils => simp only [AS.resC, Option.some.injEq, Prod.mk.injEq] at h; obtain ⟨_, _, rfl⟩ := h; simp
  | ptr => cases h
  | el => cases h
  | ro => cases h
  | nilp => cases h
  | fn => cases h
  | any => cases h

theorem resCs_sound (hg : Good cx β K s a w) {M' : Nat → Prop} (hM : ∀ b, M' b → Mut cx β s b) : ∀ {xs : List AC} {vs : List Value} {cs : List C} {fr : Bool} {ids : List Nat}, s.resCs xs = some (cs, fr, ids) →
    All2 (gC cx β s w) xs vs → (∀ id ∈ ids, ∀ b, blkOf (β id) = some b → ¬ M' b) → All2 (Rep (okA cx.F M' w fr) w) cs vs
  | [], vs, cs, fr, ids, h, hx, _ => by
    simp only [AS.resCs, Option.some.injEq, Prod.mk.injEq] at h
    obtain ⟨rfl, rfl, rfl⟩ := h
    cases hx; exact .nil
  | x :: xs, vs, cs, fr, ids, h, hx, hid => by
    simp only [AS.resCs] at h
    split at h
    · rename_i c f i cs' f' i' h1 h2
      simp only [Option.some.injEq, Prod.mk.injEq] at h
      obtain ⟨rfl, rfl, rfl⟩ := h
      cases hx with
      | cons hx hxs =>
        have r1 := resC_sound hg h1 hx hM (fun id hi => hid id (by simp [hi]))
        have r2 := resCs_sound hg hM h2 hxs (fun id hi => hid id (by simp [hi]))
        exact .cons (r1.weaken (fun _ h => h) (by simp +contextual)) (r2.mono fun _ _ r => r.weaken (fun _ h => h) (by simp +contextual))
    · cases h

theorem resCs_live : ∀ {xs : List AC} {cs : List C} {fr : Bool} {ids : List Nat}, s.resCs xs = some (cs, fr, ids) → ∀ id ∈ ids, ∃ o, s.obj id = some o
  | [], cs, fr, ids, h => by
    simp only [AS.resCs, Option.some.injEq, Prod.mk.injEq] at h
    obtain ⟨rfl, rfl, rfl⟩ := h
    simp
  | x :: xs, cs, fr, ids, h => by
    simp only [AS.resCs] at h
    split at h
    · rename_i c f i cs' f' i' h1 h2
      simp only [Option.some.injEq, Prod.mk.injEq] at h
      obtain ⟨rfl, rfl, rfl⟩ := h
      intro id hi
      rcases List.mem_append.1 hi with hi | hi
      · exact resC_live h1 id hi
      · exact resCs_live h2 id hi
    · cases h

theorem resCs_length : ∀ {xs : List AC} {cs : List C} {fr : Bool} {ids : List Nat}, s.resCs xs = some (cs, fr, ids) → cs.length = xs.length
  | [], cs, fr, ids, h => by
    simp only [AS.resCs, Option.some.injEq, Prod.mk.injEq] at h
    obtain ⟨rfl, rfl, rfl⟩ := h
    rfl
  | x :: xs, cs, fr, ids, h => by
    simp only [AS.resCs] at h
    split at h
    · rename_i c f i cs' f' i' h1 h2
      simp only [Option.some.injEq, Prod.mk.injEq] at h
      obtain ⟨rfl, rfl, rfl⟩ := h
      simp [resCs_length h2]
    · cases h

end
end Go.Proofs.YtcaahmielncmpaaGreat

namespace Go.Proofs.YtcaahmielncmpaaGreat
open Go Go.RowKit

def upd (β : Nat → Value) (i : Nat) (v : Value) : Nat → Value := fun j => if j = i then v else β j
def also (K : Nat → Prop) (n : Nat) : Nat → Prop := fun i => K i ∨ i = n

section
variable {cx : Cx} {K : Nat → Prop} {β β' : Nat → Value} {s s' : AS} {a : Act} {w w' : World}

theorem Step.refl (cx : Cx) (K : Nat → Prop) (β : Nat → Value) (s : AS) (w : World) : Step cx K β s w β s w :=
  ⟨Nat.le_refl _, fun _ _ _ => rfl, fun _ _ h => h, fun _ _ h => ⟨h, rfl⟩⟩

/-- The environment as it was, other objects and another world. -/
theorem Good.step {K' : Nat → Prop} (hg : Good cx β K s a w) (hs : Step cx K β s w β' s' w') (hK : ∀ i, K i → K' i) (hb : Below cx.N w w') (he : s'.env = s.env)
    (ho : ∀ id o, s'.obj id = some o → K' id ∧ o.wf K' ∧ gO cx β' s' w' (β' id) o)
    (hi : ∀ id id' o o', s'.obj id = some o → s'.obj id' = some o' → id ≠ id' → ∀ b, blkOf (β' id) = some b → blkOf (β' id') ≠ some b) : Good cx β' K' s' a w' where
  ext := hg.ext.trans hb
  sb := hg.sb
  fb := hg.fb
  defers := hg.defers
  size := hg.size
  wf := ⟨fun t av h => (hg.wf.env t av (by unfold AS.get at h ⊢; rw [← he]; exact h)).mono hK, fun id o h => ⟨(ho id o h).1, (ho id o h).2.1⟩⟩
  slots := fun t av h => by
    have h' : s.get t = some av := by unfold AS.get at h ⊢; rw [← he]; exact h
    obtain ⟨v, h1, h2⟩ := hg.slots t av h'
    exact ⟨v, h1, hs.gV (hg.wf.env t av h') h2⟩
  objs := fun id o h => (ho id o h).2.2
  inj := hi

/-- A new object in new memory. -/
theorem alloc_step (hg : Good cx β K s a w) {nid : Nat} (hn : ¬ K nid) (o : Ob) {bw : Value} (hb : Below w.heap.size w w') (hbv : ∀ b, blkOf bw = some b → w.heap.size ≤ b) :
    Step cx K β s w (upd β nid bw) (s.ups [(nid, some o)]) w' where
  size := hb.size
  keep := fun k hk _ => hb.block k hk
  muts := by
    rintro b hlt (h | ⟨id, o', h1, h2⟩)
    · exact .inl h
    · rw [AS.obj_up] at h1
      by_cases e : id = nid
      · subst e
        simp [upd] at h2
        exact absurd (hbv b h2) (by omega)
      · rw [if_neg e] at h1
        simp [upd, e] at h2
        exact .inr ⟨id, o', h1, h2⟩
  live := fun id hk hl => by
    have e : id ≠ nid := fun e => hn (e ▸ hk)
    rw [AS.obj_up, if_neg e] at hl
    exact ⟨hl, by simp [upd, e]⟩

theorem alloc_good (hg : Good cx β K s a w) {nid : Nat} (hn : ¬ K nid) {o : Ob} {bw : Value} (hb : Below w.heap.size w w') (hbv : ∀ b, blkOf bw = some b → w.heap.size ≤ b)
    (hw : o.wf (also K nid)) (hgo : gO cx (upd β nid bw) (s.ups [(nid, some o)]) w' bw o) : Good cx (upd β nid bw) (also K nid) (s.ups [(nid, some o)]) a w' := by
  have hs := alloc_step hg hn o hb hbv
  have hN : cx.N ≤ w.heap.size := hg.ext.size
  refine hg.step hs (fun i h => .inl h) (hb.mono hN) rfl ?_ ?_
  · intro id o' h
    rw [AS.obj_up] at h
    by_cases e : id = nid
    · subst e
      rw [if_pos rfl] at h; cases h
      exact ⟨.inr rfl, hw, by simpa [upd] using hgo⟩
    · rw [if_neg e] at h
      have hk := hg.wf.heap id o' h
      refine ⟨.inl hk.1, hk.2.mono fun i h => .inl h, ?_⟩
      have : upd β nid bw id = β id := by simp [upd, e]
      rw [this]
      exact hs.gO hk.2 (fun b hbb => hb.block b (hg.blk h hbb).2.1) (hg.objs id o' h)
  · intro id id' o1 o2 h1 h2 hne b hb1
    rw [AS.obj_up] at h1 h2
    by_cases e1 : id = nid
    · subst e1
      have e2 : id' ≠ id := Ne.symm hne
      rw [if_neg e2] at h2
      simp [upd] at hb1
      have hlt : upd β id bw id' = β id' := by simp [upd, e2]
      rw [hlt]
      intro hb2
      have := (hg.blk h2 hb2).2.1
      have := hbv b hb1
      omega
    · rw [if_neg e1] at h1
      have hb1' : blkOf (β id) = some b := by simpa [upd, e1] using hb1
      by_cases e2 : id' = nid
      · subst e2
        intro hb2
        simp [upd] at hb2
        have := (hg.blk h1 hb1').2.1
        have := hbv b hb2
        omega
      · rw [if_neg e2] at h2
        have : upd β nid bw id' = β id' := by simp [upd, e2]
        rw [this]
        exact hg.inj id id' o1 o2 h1 h2 hne b hb1'

/-- A live object is written. -/
theorem write_step (hg : Good cx β K s a w) {id : Nat} {o : Ob} (ho : s.obj id = some o) (o' : Ob) (hsz : w.heap.size ≤ w'.heap.size)
    (hk : ∀ k, blkOf (β id) ≠ some k → w'.heap[k]? = w.heap[k]?) : Step cx K β s w β (s.ups [(id, some o')]) w' where
  size := hsz
  keep := fun k _ hm => hk k fun e => hm (.inr ⟨id, o, ho, e⟩)
  muts := by
    rintro b _ (h | ⟨i, oi, h1, h2⟩)
    · exact .inl h
    · rw [AS.obj_up] at h1
      by_cases e : i = id
      · subst e; exact .inr ⟨i, o, ho, h2⟩
      · rw [if_neg e] at h1; exact .inr ⟨i, oi, h1, h2⟩
  live := fun i _ hl => by
    rw [AS.obj_up] at hl
    by_cases e : i = id
    · subst e; rw [ho]; exact ⟨rfl, rfl⟩
    · rw [if_neg e] at hl; exact ⟨hl, rfl⟩

theorem write_good (hg : Good cx β K s a w) {id : Nat} {o : Ob} (ho : s.obj id = some o) {o' : Ob} (hb : Below cx.N w w')
    (hk : ∀ k, blkOf (β id) ≠ some k → w'.heap[k]? = w.heap[k]?) (hw : o'.wf K) (hgo : gO cx β (s.ups [(id, some o')]) w' (β id) o') : Good cx β K (s.ups [(id, some o')]) a w' := by
  have hs := write_step hg ho o' hb.size hk
  refine hg.step hs (fun i h => h) hb rfl ?_ ?_
  · intro i oi h
    rw [AS.obj_up] at h
    by_cases e : i = id
    · subst e
      rw [if_pos rfl] at h; cases h
      exact ⟨(hg.wf.heap i o ho).1, hw, hgo⟩
    · rw [if_neg e] at h
      have hk' := hg.wf.heap i oi h
      exact ⟨hk'.1, hk'.2, hs.gO hk'.2 (fun b hbb => hk b (hg.inj i id oi o h ho e b hbb)) (hg.objs i oi h)⟩
  · intro i i' o1 o2 h1 h2 hne b hb1
    rw [AS.obj_up] at h1 h2
    have h1' : ∃ o, s.obj i = some o := by
      by_cases e : i = id
      · exact ⟨o, e ▸ ho⟩
      · rw [if_neg e] at h1; exact ⟨_, h1⟩
    have h2' : ∃ o, s.obj i' = some o := by
      by_cases e : i' = id
      · exact ⟨o, e ▸ ho⟩
      · rw [if_neg e] at h2; exact ⟨_, h2⟩
    obtain ⟨p, hp⟩ := h1'
    obtain ⟨q, hq⟩ := h2'
    exact hg.inj i i' p q hp hq hne b hb1

/-- Objects are let go. -/
theorem kill_step (hg : Good cx β K s a w) (ids : List Nat) : Step cx K β s w β (s.ups (ids.map (·, none))) w where
  size := Nat.le_refl _
  keep := fun _ _ _ => rfl
  muts := by
    rintro b _ (h | ⟨i, oi, h1, h2⟩)
    · exact .inl h
    · rw [AS.obj_kill] at h1
      split at h1
      · cases h1
      · exact .inr ⟨i, oi, h1, h2⟩
  live := fun i _ hl => by
    rw [AS.obj_kill] at hl
    split at hl
    · cases hl
    · exact ⟨hl, rfl⟩

theorem kill_good (hg : Good cx β K s a w) (ids : List Nat) : Good cx β K (s.ups (ids.map (·, none))) a w := by
  have hs := kill_step hg ids
  have hl : ∀ i o, (s.ups (ids.map (·, none))).obj i = some o → s.obj i = some o := fun i o h => by
    rw [AS.obj_kill] at h
    split at h
    · cases h
    · exact h
  refine hg.step hs (fun i h => h) (Below.refl _ _) rfl ?_ ?_
  · intro i oi h
    have hk' := hg.wf.heap i oi (hl i oi h)
    exact ⟨hk'.1, hk'.2, hs.gO hk'.2 (fun _ _ => rfl) (hg.objs i oi (hl i oi h))⟩
  · intro i i' o1 o2 h1 h2 hne b hb1
    exact hg.inj i i' o1 o2 (hl _ _ h1) (hl _ _ h2) hne b hb1

theorem Good.monoK {K' : Nat → Prop} (hg : Good cx β K s a w) (h : ∀ i, K i → K' i) : Good cx β K' s a w :=
  hg.step (Step.refl cx K β s w) h (Below.refl _ _) rfl (fun id o ho => ⟨h _ (hg.wf.heap id o ho).1, (hg.wf.heap id o ho).2.mono h, hg.objs id o ho⟩) hg.inj

/-- Only the world's count of draws, or memory that is new and belongs to nobody, has changed. -/
theorem Good.world (hg : Good cx β K s a w) (hb : Below w.heap.size w w') : Good cx β K s a w' ∧ Step cx K β s w β s w' := by
  have hs : Step cx K β s w β s w' := ⟨hb.size, fun k hk _ => hb.block k hk, fun _ _ h => h, fun _ _ h => ⟨h, rfl⟩⟩
  refine ⟨hg.step hs (fun _ h => h) (hb.mono hg.ext.size) rfl (fun id o ho => ?_) hg.inj, hs⟩
  have hk := hg.wf.heap id o ho
  exact ⟨hk.1, hk.2, hs.gO hk.2 (fun b hbb => hb.block b (hg.blk ho hbb).2.1) (hg.objs id o ho)⟩

/-- A value is laid into a temporary. -/
theorem Good.put (hg : Good cx β K s a w) {d : Nat} {av : AV} {v : Value} (hd : d < cx.nt) (hv : gV cx β s w av v) (hw : av.wf K) : Good cx β K (s.put (some d) av) (a.put (some d) v) w := by
  have hs : Step cx K β s w β (s.put (some d) av) w := ⟨Nat.le_refl _, fun _ _ _ => rfl, fun b _ h => by
      rcases h with h | ⟨i, o, h1, h2⟩
      · exact .inl h
      · exact .inr ⟨i, o, by rw [AS.obj_put] at h1; exact h1, h2⟩, fun i _ h => ⟨by rw [AS.obj_put] at h; exact h, rfl⟩⟩
  refine ⟨hg.ext, hg.sb, hg.fb, hg.defers, by simp [Act.put, hg.size], ⟨?_, ?_⟩, ?_, ?_, ?_⟩
  · intro t av' h
    rw [AS.get_put] at h
    split at h
    · cases h; exact hw
    · exact hg.wf.env t av' h
  · intro id o h
    rw [AS.obj_put] at h
    exact hg.wf.heap id o h
  · intro t av' h
    rw [AS.get_put] at h
    split at h
    · rename_i e
      cases h
      subst e
      exact ⟨v, by simp [Act.put, Array.getElem?_setIfInBounds, hg.size, hd], hs.gV hw hv⟩
    · rename_i e
      obtain ⟨u, h1, h2⟩ := hg.slots t av' h
      exact ⟨u, by simp [Act.put, Array.getElem?_setIfInBounds_ne (Ne.symm e), h1], hs.gV (hg.wf.env t av' h) h2⟩
  · intro id o h
    rw [AS.obj_put] at h
    exact hs.gO (hg.wf.heap id o h).2 (fun _ _ => rfl) (hg.objs id o h)
  · intro id id' o o' h1 h2
    rw [AS.obj_put] at h1 h2
    exact hg.inj id id' o o' h1 h2

end
end Go.Proofs.YtcaahmielncmpaaGreat

namespace Go.Proofs.YtcaahmielncmpaaGreat
open Go Go.RowKit

def Yields (r : Result Next) (v : Value) (w' : World) : Prop := r = .ok (.value v) w' ∨ (r = .ok .skip w' ∧ v = Go.undef)

def Post (cx : Cx) (K : Nat → Prop) (nid : Nat) (s : AS) (a : Act) (e : Eff) (v : Value) (w' : World) : Prop :=
  ∃ β', Good cx β' (also K nid) (s.ups e.ups) a w' ∧ gV cx β' (s.ups e.ups) w' e.val v ∧ e.val.wf (also K nid)

/-- What is to be shown of an operation. -/
def Sound (cx : Cx) (K : Nat → Prop) (nid : Nat) (s : AS) (a : Act) (w : World) (o : Oper) (e : Eff) : Prop :=
  ∃ v w', Yields ((execOp a.eval o).run cx.P w) v w' ∧ Post cx K nid s a e v w'

theorem tabOf_spec {P : Program} {T : Nat} {te : TE} (h : tabOf P T = some te) : ∃ i d z, P.info? T = some i ∧ P.underlying T = some d ∧ i.zero = some z ∧
    z.cells.size = i.size ∧ z.cells.toList.all (·.oneCell') = true ∧ te.size = i.size ∧ te.bytes = i.bytes ∧ te.zero = z.cells.toList.map acOf ∧
    te.agg = (match d with | .struct _ | .array _ _ => true | _ => false) ∧ te.isBool = (match d with | .bool => true | _ => false) ∧
    te.elem = (match d with | .slice e => some e | _ => none) ∧
    te.flds = (match d with | .struct fs => fs.toList.map (fun f => (f.offset, ((P.info? f.type).map (·.size)).getD 0, match P.underlying f.type with | some (.struct _) | some (.array _ _) | none => true | _ => false)) | _ => []) ∧
    te.okf = (match d with | .struct fs => fs.toList.all (fun f => (P.info? f.type).isSome) | _ => false) := by
  unfold tabOf at h
  split at h
  · rename_i i d hi hd
    split at h
    · rename_i z hz
      split at h
      · rename_i hc
        cases h
        exact ⟨i, d, z, hi, hd, hz, hc.1, hc.2, rfl, rfl, rfl, rfl, rfl, rfl, rfl, rfl⟩
      · cases h
    · cases h
  · cases h

theorem tabOf_kind {P : Program} {T : Nat} {te : TE} (h : tabOf P T = some te) : ∃ d, P.underlying T = some d ∧ te.isPtr = (match d with | .pointer _ => true | _ => false) ∧ te.isF64 = (match d with | .float .f64 => true | _ => false) ∧ te.fok = (match d with | .struct fs => fs.toList.all (fun f => (P.underlying f.type).isSome) | _ => false) := by
  unfold tabOf at h
  split at h
  · rename_i i d hi hd
    split at h
    · split at h
      · cases h
        exact ⟨d, hd, rfl, rfl, rfl⟩
      · cases h
    · cases h
  · cases h

section
variable {cx : Cx} {K : Nat → Prop} {β : Nat → Value} {s : AS} {a : Act} {w : World} {nid : Nat}

theorem gC.oneCell {x : AC} {v : Value} (h : gC cx β s w x v) : v.oneCell' = true := by
  cases x with
  | c x fr => exact Rep.oneCell h
  | nils => rw [show v = _ from h]; rfl
  | ptr => exact h.1
  | el => exact h.1
  | arr => exact h.1
  | ro xs => obtain ⟨b, off, h, _⟩ := h; rw [h]; rfl
  | nilp => rw [show v = _ from h]; rfl
  | fn => exact h.1
  | pre => exact h.1
  | fb o =>
    cases o with
    | none => rw [show v = _ from h]; rfl
    | some o => obtain ⟨b, T, u, h1, _⟩ := h; rw [h1]; rfl
  | any => exact h

theorem cells_of_one {v : Value} (h : v.oneCell' = true) : v.cells = #[v] := by
  cases v <;> first | rfl | (simp [Value.oneCell'] at h)

theorem g1.cells {x : A1} {v : Value} (h : g1 cx β s w x v) : All2 (gC cx β s w) x.cells v.cells.toList ∧ ∀ u ∈ v.cells.toList, u.oneCell' = true := by
  cases x with
  | one x =>
    have h1 := gC.oneCell h
    rw [cells_of_one h1]
    exact ⟨.cons h .nil, by simpa using h1⟩
  | agg xs =>
    obtain ⟨vs, rfl, h2⟩ := h
    refine ⟨h2, fun u hu => ?_⟩
    obtain ⟨x, _, hx⟩ := h2.right u (by simpa [Value.cells] using hu)
    exact hx.oneCell

theorem A1.wf_cells {x : A1} (h : x.wf K) : ∀ y ∈ x.cells, y.wf K := by
  cases x with
  | one x => intro y hy; simp [A1.cells] at hy; subst hy; exact h
  | agg xs => exact h

theorem post_pure (hg : Good cx β K s a w) {e : Eff} (he : e.ups = []) {v : Value} (hv : gV cx β s w e.val v) (hw : e.val.wf K) : Post cx K nid s a e v w := by
  unfold Post
  rw [he, AS.ups_nil]
  exact ⟨β, hg.monoK fun _ h => .inl h, hv, hw.mono fun _ h => .inl h⟩

theorem sound_value (hg : Good cx β K s a w) {o : Oper} {e : Eff} (he : e.ups = []) {v : Value} (hr : (execOp a.eval o).run cx.P w = .ok (.value v) w)
    (hv : gV cx β s w e.val v) (hw : e.val.wf K) : Sound cx K nid s a w o e :=
  ⟨v, w, .inl hr, post_pure hg he hv hw⟩

theorem sound_alloc (hg : Good cx β K s a w) (hn : ¬ K nid) {o : Oper} {e : Eff} {ob : Ob} (he : e.ups = [(nid, some ob)]) {bw : Value} {w' : World} (hr : (execOp a.eval o).run cx.P w = .ok (.value bw) w')
    (hb : Below w.heap.size w w') (hbv : ∀ b, blkOf bw = some b → w.heap.size ≤ b) (hw : ob.wf (also K nid)) (hgo : gO cx (upd β nid bw) (s.ups [(nid, some ob)]) w' bw ob)
    (hv : gV cx (upd β nid bw) (s.ups [(nid, some ob)]) w' e.val bw) (hwv : e.val.wf (also K nid)) : Sound cx K nid s a w o e :=
  ⟨bw, w', .inl hr, upd β nid bw, by rw [he]; exact alloc_good hg hn hb hbv hw hgo, by rw [he]; exact hv, hwv⟩

/-! ### copies, choices, arithmetic -/
theorem sound_move (hg : Good cx β K s a w) {o : Oper} {x : Operand} (ho : o.op = .move x ∨ o.op = .assign x) {e : Eff} (h : effOp cx.P nid (.move x) s = some e) : Sound cx K nid s a w o e := by
  simp only [effOp] at h
  split at h
  · rename_i av hx
    cases h
    obtain ⟨h1, h2⟩ := ev_sound hg hx
    refine sound_value hg rfl (v := a.eval x) ?_ h1 h2
    rcases ho with ho | ho <;> simp [execOp, ho]
  · cases h

theorem sound_pick (hg : Good cx β K s a w) {o : Oper} {c x y : Operand} (ho : o.op = .pick c x y) {e : Eff} (h : effOp cx.P nid (.pick c x y) s = some e) : Sound cx K nid s a w o e := by
  simp only [effOp] at h
  split at h
  · rename_i t fr hc
    have hcv := (ev_sound hg hc).1
    simp only [gV, g1, gC, Rep] at hcv
    split at h
    · rename_i av hx
      cases h
      cases t
      · obtain ⟨h1, h2⟩ := ev_sound hg (x := y) (by simpa using hx)
        exact sound_value hg rfl (v := a.eval y) (by simp [execOp, ho, hcv, asBool]) h1 h2
      · obtain ⟨h1, h2⟩ := ev_sound hg (x := x) (by simpa using hx)
        exact sound_value hg rfl (v := a.eval x) (by simp [execOp, ho, hcv, asBool]) h1 h2
    · cases h
  · cases h

theorem wrap_id {n : Int} (h : InI64 n) : IntKind.i64.wrap n = n := by
  rw [IntKind.wrap_i64]
  unfold InI64 at h
  omega

theorem gV_iv (n : Int) : gV cx β s w (iv n) (.int .i64 n) := by simp only [gV, g1, gC, Rep]
theorem gV_bv (b : Bool) : gV cx β s w (bv b) (.bool b) := by simp only [gV, g1, gC, Rep]

theorem run_equal_bool {P : Program} {t : TypeId} (h : P.underlying t = some .bool) (m n : Bool) : (Op.equal t (.bool m) (.bool n)).run P w = .ok (m == n) w := by
  show (Op.equalIn (9999 + 1) t _ _).run P w = _
  rw [Op.equalIn]
  simp only [Sem.run_bind, run_underlying h, Result.andThen_ok, Sem.run_pure]

theorem run_equal_ptr {P : Program} {t e : TypeId} (h : P.underlying t = some (.pointer e)) (m : Option Addr) : (Op.equal t (.pointer m) (.pointer none)).run P w = .ok m.isNone w := by
  show (Op.equalIn (9999 + 1) t _ _).run P w = _
  rw [Op.equalIn]
  cases m <;> simp only [Sem.run_bind, run_underlying h, Result.andThen_ok, Sem.run_pure, Option.isNone]

theorem bin_int {m n : Int} {o : Oper} {op : BinOp} {xT yT : TypeId} {x y : Operand} (ho : o.op = .binOp op xT x y yT) (h1 : a.eval x = .int .i64 m) (h2 : a.eval y = .int .i64 n)
    {v : Value} (hr : (binOp op xT (.int .i64 m) (.int .i64 n)).run cx.P w = .ok v w) : (execOp a.eval o).run cx.P w = .ok (.value v) w := by
  simp only [execOp, ho, h1, h2, eqGuard, Sem.run_bind]
  split <;> simp [hr]

theorem sound_bin (hg : Good cx β K s a w) {o : Oper} {op : BinOp} {xT yT : TypeId} {x y : Operand} (ho : o.op = .binOp op xT x y yT) {e : Eff} (h : effOp cx.P nid (.binOp op xT x y yT) s = some e) (hs : e.side) :
    Sound cx K nid s a w o e := by
  simp only [effOp] at h
  split at h
  · rename_i id off hx hy
    have h1 := (ev_sound hg hx).1
    have h2 := (ev_sound hg hy).1
    unfold effPtr at h
    split at h
    · rename_i te ht
      split at h
      · rename_i hc
        obtain ⟨d, k1, k2, _⟩ := tabOf_kind ht
        have hp := hc.1
        rw [k2] at hp
        have hd : ∃ e, d = .pointer e := by cases d <;> simp_all
        obtain ⟨e0, rfl⟩ := hd
        obtain ⟨b, _, h3⟩ := h1.2 hc.2
        simp only [gV, g1, gC] at h2
        have hrun : ∀ (w : World), (Op.equal xT (.pointer (some ⟨b, off, none⟩)) (.pointer none)).run cx.P w = .ok false w := fun w => run_equal_ptr k1 _
        cases op <;> simp only [Option.some.injEq, reduceCtorEq] at h <;> subst h
        · exact sound_value hg rfl (v := .bool false) (by simp [execOp, ho, h3, h2, eqGuard, binOp, hrun]) (gV_bv _) trivial
        · exact sound_value hg rfl (v := .bool true) (by simp [execOp, ho, h3, h2, eqGuard, binOp, hrun]) (gV_bv _) trivial
      · cases h
    · cases h
  · rename_i ax ay hne hx hy
    clear hne
    have h1 := (ev_sound hg hx).1
    have h2 := (ev_sound hg hy).1
    unfold effBin at h
    split at h
    · rename_i m _ n _
      simp only [gV, g1, gC, Rep] at h1 h2
      cases op <;> simp only [Option.some.injEq, reduceCtorEq] at h <;> subst h
      case add => exact sound_value hg rfl (v := .int .i64 (IntKind.i64.wrap (m + n))) (bin_int ho h1 h2 (by unfold binOp; simp [Op.intArith])) (gV_iv _) trivial
      case sub => exact sound_value hg rfl (v := .int .i64 (m - n)) (bin_int ho h1 h2 (by unfold binOp; simp [Op.intArith, wrap_id hs])) (gV_iv _) trivial
      case eql => exact sound_value hg rfl (v := .bool (decide (m = n))) (bin_int ho h1 h2 (by unfold binOp; simp [Op.intCmp]; rfl)) (gV_bv _) trivial
      case neq => exact sound_value hg rfl (v := .bool (!decide (m = n))) (bin_int ho h1 h2 (by unfold binOp; simp [Op.intCmp]; rfl)) (gV_bv _) trivial
      case lss => exact sound_value hg rfl (v := .bool (decide (m < n))) (bin_int ho h1 h2 (by unfold binOp; simp [Op.intCmp])) (gV_bv _) trivial
      case leq => exact sound_value hg rfl (v := .bool (decide (m ≤ n))) (bin_int ho h1 h2 (by unfold binOp; simp [Op.intCmp])) (gV_bv _) trivial
      case gtr => exact sound_value hg rfl (v := .bool (decide (n < m))) (bin_int ho h1 h2 (by unfold binOp; simp [Op.intCmp])) (gV_bv _) trivial
      case geq => exact sound_value hg rfl (v := .bool (decide (n ≤ m))) (bin_int ho h1 h2 (by unfold binOp; simp [Op.intCmp])) (gV_bv _) trivial
    · rename_i m _ n _
      simp only [gV, g1, gC, Rep] at h1 h2
      split at h
      · rename_i te ht
        split at h
        · rename_i hb
          obtain ⟨i, d, z, q1, q2, q3, q4, q5, q6, q7, q8, q9, q10, q11, q12, q13⟩ := tabOf_spec ht
          rw [q10] at hb
          have hd : d = .bool := by cases d <;> simp_all
          subst hd
          have hrun : ∀ (w : World), (Op.equal xT (.bool m) (.bool n)).run cx.P w = .ok (m == n) w := fun w => run_equal_bool q2 m n
          cases op <;> simp only [Option.some.injEq, reduceCtorEq] at h <;> subst h
          · exact sound_value hg rfl (v := .bool (m == n)) (by simp [execOp, ho, h1, h2, eqGuard, binOp, hrun]) (gV_bv _) trivial
          · exact sound_value hg rfl (v := .bool (!(m == n))) (by simp [execOp, ho, h1, h2, eqGuard, binOp, hrun]) (gV_bv _) trivial
        · cases h
      · cases h
    · rename_i m _ n _
      simp only [gV, g1, gC, Rep] at h1 h2
      cases op <;> simp only [Option.some.injEq, reduceCtorEq] at h <;> subst h
      · exact sound_value hg rfl (v := .bool (m.toList == n.toList)) (by simp [execOp, ho, h1, h2, eqGuard, binOp, Op.stringOp]) (gV_bv _) trivial
      · exact sound_value hg rfl (v := .bool (!(m.toList == n.toList))) (by simp [execOp, ho, h1, h2, eqGuard, binOp, Op.stringOp]) (gV_bv _) trivial
    · rename_i m _ n _
      simp only [gV, g1, gC, Rep] at h1 h2
      cases op <;> simp only [Option.some.injEq, reduceCtorEq] at h <;> subst h
      all_goals exact sound_value hg rfl (v := .bool _) (by simp only [execOp, ho, h1, h2, eqGuard, binOp, Op.floatCmp]; simp) (gV_bv _) trivial
    · simp only [gV, g1, gC] at h1 h2
      split at h
      · rename_i te ht
        split at h
        · rename_i hp
          obtain ⟨d, k1, k2, _⟩ := tabOf_kind ht
          rw [k2] at hp
          have hd : ∃ e, d = .pointer e := by cases d <;> simp_all
          obtain ⟨e0, rfl⟩ := hd
          have hrun : ∀ (w : World), (Op.equal xT (.pointer none) (.pointer none)).run cx.P w = .ok true w := fun w => run_equal_ptr k1 _
          cases op <;> simp only [Option.some.injEq, reduceCtorEq] at h <;> subst h
          · exact sound_value hg rfl (v := .bool true) (by simp [execOp, ho, h1, h2, eqGuard, binOp, hrun]) (gV_bv _) trivial
          · exact sound_value hg rfl (v := .bool false) (by simp [execOp, ho, h1, h2, eqGuard, binOp, hrun]) (gV_bv _) trivial
        · cases h
      · cases h
    · rename_i q
      simp only [gV, g1, gC] at h1 h2
      split at h
      · rename_i te ht
        split at h
        · rename_i hp
          obtain ⟨d, k1, k2, _⟩ := tabOf_kind ht
          rw [k2] at hp
          have hd : ∃ e, d = .pointer e := by cases d <;> simp_all
          obtain ⟨e0, rfl⟩ := hd
          obtain ⟨m, hm, hmm⟩ : ∃ m : Option Addr, a.eval x = .pointer m ∧ m.isNone = !q.isSome := by
            cases q with
            | none => exact ⟨none, h1, rfl⟩
            | some p =>
              obtain ⟨k, e, l⟩ := p
              obtain ⟨b, T, u, h3, _⟩ := h1
              exact ⟨_, h3, rfl⟩
          have hrun : ∀ (w : World), (Op.equal xT (.pointer m) (.pointer none)).run cx.P w = .ok (!q.isSome) w := fun w => by rw [run_equal_ptr k1 _, hmm]
          cases op <;> simp only [Option.some.injEq, reduceCtorEq] at h <;> subst h
          · exact sound_value hg rfl (v := .bool (!q.isSome)) (by simp [execOp, ho, hm, h2, eqGuard, binOp, hrun]) (gV_bv _) trivial
          · exact sound_value hg rfl (v := .bool q.isSome) (by simp [execOp, ho, hm, h2, eqGuard, binOp, hrun]) (gV_bv _) trivial
        · cases h
      · cases h
    · cases h
  · cases h

end
end Go.Proofs.YtcaahmielncmpaaGreat

namespace Go.Proofs.YtcaahmielncmpaaGreat
open Go Go.RowKit

section
variable {cx : Cx} {K : Nat → Prop} {β : Nat → Value} {s : AS} {a : Act} {w : World} {nid : Nat}

theorem run_isAgg {P : Program} {T : Nat} {te : TE} (h : tabOf P T = some te) (w : World) : (isAgg T).run P w = .ok te.agg w := by
  obtain ⟨i, d, z, q1, q2, q3, q4, q5, q6, q7, q8, q9, q10, q11, q12, q13⟩ := tabOf_spec h
  rw [q9]
  unfold isAgg
  rw [Sem.run_bind, run_underlying q2 w]
  cases d <;> simp

theorem run_sizeOf {P : Program} {T : Nat} {te : TE} (h : tabOf P T = some te) (w : World) : (sizeOf T).run P w = .ok te.size w := by
  obtain ⟨i, d, z, q1, q2, q3, q4, q5, q6, q7, q8, q9, q10, q11, q12, q13⟩ := tabOf_spec h
  simp [sizeOf, typeInfo, q1, q6]

/-! ### new variables -/
theorem sound_new (hg : Good cx β K s a w) (hn : ¬ K nid) {o : Oper} {cells : List AC} {vs : Array Value} {T : Nat}
    (hr : (execOp a.eval o).run cx.P w = .ok (.value (.pointer (some ⟨w.heap.size, 0, none⟩))) (w.alloc (.cells vs T))) (hc : All2 (gC cx β s w) cells vs.toList) (hw : ∀ x ∈ cells, x.wf K) :
    Sound cx K nid s a w o { val := .v (.one (.ptr nid 0)), ups := [(nid, some (.box cells))] } := by
  have hb : Below w.heap.size w (w.alloc (.cells vs T)) := (Below.refl _ _).alloc (Nat.le_refl _) _
  have hbv : ∀ b, blkOf (.pointer (some ⟨w.heap.size, 0, none⟩)) = some b → w.heap.size ≤ b := by
    intro b h
    simp [blkOf] at h
    omega
  have hs := alloc_step hg hn (.box cells) hb hbv
  refine sound_alloc hg hn rfl hr hb hbv (fun x hx => (hw x hx).mono fun _ h => .inl h) ?_ ?_ (.inr rfl)
  · exact ⟨w.heap.size, T, vs, rfl, hg.ext.size, heap_alloc_new w _, hc.mono' fun x v hx hv => hs.gC (hw x hx) hv⟩
  · exact ⟨rfl, fun _ => ⟨w.heap.size, by simp [upd, blkOf], rfl⟩⟩

theorem sound_alloc_op (hg : Good cx β K s a w) (hn : ¬ K nid) {o : Oper} {T : TypeId} (ho : o.op = .alloc T) {e : Eff} (h : effOp cx.P nid (.alloc T) s = some e) : Sound cx K nid s a w o e := by
  simp only [effOp] at h
  split at h
  · rename_i te ht
    cases h
    obtain ⟨i, d, z, q1, q2, q3, q4, q5, q6, q7, q8, q9, q10, q11, q12, q13⟩ := tabOf_spec ht
    refine sound_new hg hn (vs := z.cells) (T := T) ?_ ?_ ?_
    · simp [execOp, ho, Instr.alloc, zeroValue, typeInfo, q1, q3, newVar, newRow]
    · rw [q8]
      refine All2.mk (by simp) fun i x v h1 h2 => ?_
      rw [List.getElem?_map, h2] at h1
      cases h1
      exact gC_acOf v ((List.all_eq_true.1 q5) v (List.mem_of_getElem? h2))
    · rw [q8]
      intro x hx
      obtain ⟨y, _, rfl⟩ := List.mem_map.1 hx
      exact wf_acOf y
  · cases h

theorem sound_box (hg : Good cx β K s a w) (hn : ¬ K nid) {o : Oper} {T : TypeId} {x : Operand} (ho : o.op = .box T x) {e : Eff} (h : effOp cx.P nid (.box T x) s = some e) : Sound cx K nid s a w o e := by
  simp only [effOp] at h
  split at h
  · rename_i te y ht hx
    cases h
    obtain ⟨h1, h2⟩ := ev_sound hg hx
    refine sound_new hg hn (vs := (a.eval x).cells) (T := T) ?_ (g1.cells h1).1 (A1.wf_cells h2)
    simp [execOp, ho, Instr.box, newVar, newRow]
  · cases h

/-! ### loads -/
theorem gRp_now (hg : Good cx β K s a w) {xs : List C} {v : Value} (h : gRp cx.S cx.w0 xs v) : ∃ b off, v = .pointer (some ⟨b, off, none⟩) ∧ b < w.heap.size ∧ RepRow (okA cx.F (Mut cx β s) w false) w b xs off := by
  obtain ⟨b, off, h1, h2, h3⟩ := h
  have hcell : ∀ b, b < cx.w0.heap.size → ∀ o v, cx.w0.cell? ⟨b, o, none⟩ = some v → w.cell? ⟨b, o, none⟩ = some v := fun b hlt o v hc => by
    rw [cell_of_heap (hg.ext.block b hlt)]; exact hc
  refine ⟨b, off, h1, Nat.lt_of_lt_of_le h2 hg.ext.size, h3.mono (fun b off ho => ⟨Nat.lt_of_lt_of_le ho.1 hg.ext.size, ?_, fun h => by cases h⟩) (fun b off ho => hcell b ho.1) (hcell b h2)⟩
  rintro (h | ⟨id, o, h4, h5⟩)
  · exact ho.2.1 h
  · have := (hg.blk h4 h5).1
    have := ho.1
    unfold Cx.N at *
    omega

theorem behind_sound (hg : Good cx β K s a w) {pv : AV} {v : Value} (hv : gV cx β s w pv v) (hw : pv.wf K) {cells : List AC} {ids : List Nat} {side : Prop} (h : s.behind pv = some (cells, ids, side)) (hs : side) :
    ∃ b off vs, v = .pointer (some ⟨b, off, none⟩) ∧ w.rangeAt b off vs ∧ All2 (gC cx β s w) cells vs ∧ (∀ x ∈ cells, x.wf K) := by
  unfold AS.behind at h
  split at h
  · rename_i id off
    split at h
    · rename_i cs ho
      simp only [Option.some.injEq, Prod.mk.injEq] at h
      obtain ⟨rfl, rfl, rfl⟩ := h
      obtain ⟨b, T, vs, h1, h2, h3, h4⟩ := hg.objs id _ ho
      obtain ⟨b', h5, h6⟩ := hv.2 (by rw [ho]; rfl)
      rw [h1] at h5
      simp [blkOf] at h5
      subst h5
      refine ⟨b, off, vs.toList.drop off, h6, fun j u hu => ?_, h4.drop off, fun x hx => (hg.wf.heap id _ ho).2 x (List.mem_of_mem_drop hx)⟩
      rw [List.getElem?_drop] at hu
      simp [World.cell?, h3]
      simpa using hu
    · cases h
  · rename_i id sz i off
    split at h
    · rename_i e sz' rows fr ho
      split at h
      · rename_i hsz
        subst hsz
        simp only [Option.some.injEq, Prod.mk.injEq] at h
        obtain ⟨rfl, rfl, rfl⟩ := h
        obtain ⟨h1, h2, xs, h3, h4⟩ := hg.objs id _ ho
        obtain ⟨b', h5, h6⟩ := hv.2 (by rw [ho]; rfl)
        rcases h3.2 with ⟨hn, h0⟩ | ⟨g, cap, cur, hvv, hgg, hh, r1, r2, r3, r4⟩
        · rw [hn] at h5; simp [blkOf] at h5
        · rw [hvv] at h5
          simp [blkOf] at h5
          subst h5
          have hrr : RepRows (okA cx.F (Mut cx β s) w fr) w g sz' rows 0 := RepRows.of_flat h2 h4 fun j u hu => by
            rw [Nat.zero_add]; exact ownsRow_cells hh r4 j u hu
          have hrow := (hrr.get i (rows.getD i []) (by rw [List.getD_eq_getElem?_getD, List.getElem?_eq_getElem hs]; rfl)).2
          obtain ⟨us, h7, h8⟩ := (hrow.drop off).flat
          rw [Nat.zero_add] at h8
          refine ⟨g, i * sz' + off, us, h6, h8, All2.map_left (fun x => AC.c x fr) (h7.mono fun x v hx => hx), fun x hx => ?_⟩
          obtain ⟨y, _, rfl⟩ := List.mem_map.1 hx
          trivial
      · cases h
    · cases h
  · rename_i xs
    simp only [Option.some.injEq, Prod.mk.injEq] at h
    obtain ⟨rfl, rfl, rfl⟩ := h
    obtain ⟨b, off, h1, h2, h3, h4⟩ := hv
    obtain ⟨us, h5, h6⟩ := h4.flat
    refine ⟨b, off, us, h1, h6, All2.map_left (fun x => AC.c x false) (h5.mono fun x v hx => hx), fun x hx => ?_⟩
    obtain ⟨y, _, rfl⟩ := List.mem_map.1 hx
    trivial
  · rename_i xs
    simp only [Option.some.injEq, Prod.mk.injEq] at h
    obtain ⟨rfl, rfl, rfl⟩ := h
    obtain ⟨b, off, h1, h2, h4⟩ := gRp_now hg hv
    obtain ⟨us, h5, h6⟩ := h4.flat
    refine ⟨b, off, us, h1, h6, All2.map_left (fun x => AC.c x false) (h5.mono fun x v hx => hx), fun x hx => ?_⟩
    obtain ⟨y, _, rfl⟩ := List.mem_map.1 hx
    trivial
  · cases h

theorem run_loadVar_one {P : Program} {T : Nat} {te : TE} (ht : tabOf P T = some te) (hagg : te.agg = false) {b off : Nat} {v : Value} (hc : w.cell? ⟨b, off, none⟩ = some v) :
    (loadVar T ⟨b, off, none⟩).run P w = .ok v w := by
  simp [loadVar, run_isAgg ht, hagg, hc]

theorem run_loadVar_agg {P : Program} {T : Nat} {te : TE} (ht : tabOf P T = some te) (hagg : te.agg = true) {b off : Nat} {vs : List Value} (hc : w.rangeAt b off vs) (hl : vs.length = te.size) :
    (loadVar T ⟨b, off, none⟩).run P w = .ok (.agg vs.toArray) w := by
  have h1 := run_loadCells_list (P := P) w ⟨b, off, none⟩ vs (fun j v hv => by rw [Addr.add_mid]; exact hc j v hv)
  simp [loadVar, run_isAgg ht, hagg, run_sizeOf ht, ← hl, h1]

theorem sound_load (hg : Good cx β K s a w) {o : Oper} {T : TypeId} {p : Operand} (ho : o.op = .load T p) {e : Eff} (h : effOp cx.P nid (.load T p) s = some e) (hs : e.side) : Sound cx K nid s a w o e := by
  simp only [effOp] at h
  split at h
  · rename_i te pv ht hp
    obtain ⟨hv, hw⟩ := ev_sound hg hp
    split at h
    · rename_i cells ids side hb
      split at h
      · rename_i hagg
        split at h
        · rename_i hl
          cases h
          obtain ⟨b, off, vs, h1, h2, h3, h4⟩ := behind_sound hg hv hw hb hs
          refine sound_value hg rfl (v := .agg vs.toArray) ?_ ⟨vs, rfl, h3⟩ h4
          simp [execOp, ho, Instr.loadAt, Instr.sureAddr, h1, run_loadVar_agg ht hagg h2 (h3.length.symm.trans hl)]
        · split at h
          · rename_i hl
            cases h
            obtain ⟨b, off, vs, h1, h2, h3, h4⟩ := behind_sound hg hv hw hb hs
            refine sound_value hg rfl (v := .agg (vs.take te.size).toArray) ?_ ⟨vs.take te.size, rfl, h3.take _⟩ (fun x hx => h4 x (List.mem_of_mem_take hx))
            have h2' : w.rangeAt b off (vs.take te.size) := fun j u hu => by
              rw [List.getElem?_take] at hu
              split at hu
              · exact h2 j u hu
              · cases hu
            simp [execOp, ho, Instr.loadAt, Instr.sureAddr, h1, run_loadVar_agg ht hagg h2' (by rw [List.length_take, ← h3.length]; omega)]
          · cases h
      · rename_i hagg
        split at h
        · rename_i x rest
          cases h
          obtain ⟨b, off, vs, h1, h2, h3, h4⟩ := behind_sound hg hv hw hb hs
          cases h3 with
          | cons hx hxs =>
            rename_i u us
            refine sound_value hg rfl (v := u) ?_ hx (h4 x (by simp))
            have hc : w.cell? ⟨b, off, none⟩ = some u := by simpa using h2 0 u rfl
            simp [execOp, ho, Instr.loadAt, Instr.sureAddr, h1, run_loadVar_one ht (by simpa using hagg) hc]
        · cases h
    · cases h
  · cases h

/-! ### small ones -/
theorem sound_makeFunc (hg : Good cx β K s a w) {o : Oper} {f : FuncId} {first cap : Array Operand} (ho : o.op = .makeFunc (.func f) first cap) {e : Eff} (h : effOp cx.P nid (.makeFunc (.func f) first cap) s = some e) : Sound cx K nid s a w o e := by
  simp only [effOp] at h
  split at h
  · rename_i x hf hc
    obtain rfl : first = #[] := Array.ext' (by simpa using hf)
    obtain rfl : cap = #[x] := Array.ext' (by simpa using hc)
    split at h
    · rename_i id hx
      split at h
      · rename_i hl
        cases h
        obtain ⟨h1, h2⟩ := ev_sound hg hx
        obtain ⟨b, h3, h4⟩ := h1.2 hl
        exact sound_value hg rfl (v := .func (.func f) #[] #[.pointer (some ⟨b, 0, none⟩)]) (by simp [execOp, ho, Instr.makeFunc, h4]) ⟨rfl, fun _ => ⟨b, h3, rfl⟩⟩ h2
      · cases h
    · cases h
  · cases h

theorem sound_convert (hg : Good cx β K s a w) {o : Oper} {S T : TypeId} {x : Operand} (ho : o.op = .convert S T x) {e : Eff} (h : effOp cx.P nid (.convert S T x) s = some e) : Sound cx K nid s a w o e := by
  simp only [effOp] at h
  split at h
  · rename_i tS te n _ hS hT hx
    split at h
    · rename_i hf
      cases h
      have h1 := (ev_sound hg hx).1
      simp only [gV, g1, gC, Rep] at h1
      obtain ⟨d0, k0, _⟩ := tabOf_kind hS
      obtain ⟨d, k1, _, k3, _⟩ := tabOf_kind hT
      rw [k3] at hf
      have hd : d = .float .f64 := by
        split at hf
        · rfl
        · cases hf
      subst hd
      refine sound_value hg rfl (v := .float .f64 (FloatKind.f64.nearest n)) ?_ (by simp only [gV, g1, gC, Rep]) trivial
      simp only [execOp, ho, h1, convert, Sem.run_bind, run_underlying k0, run_underlying k1, Result.andThen_ok, Conv.intToFloat, Sem.run_pure]
    · cases h
  · cases h

theorem sound_not (hg : Good cx β K s a w) {o : Oper} {T : TypeId} {x : Operand} (ho : o.op = .unOp .not T x) {e : Eff} (h : effOp cx.P nid (.unOp .not T x) s = some e) : Sound cx K nid s a w o e := by
  simp only [effOp] at h
  split at h
  · rename_i b _ hx
    cases h
    have h1 := (ev_sound hg hx).1
    simp only [gV, g1, gC, Rep] at h1
    exact sound_value hg rfl (v := .bool (!b)) (by simp [execOp, ho, h1, Op.unary]) (gV_bv _) trivial
  · cases h

theorem sound_nilCheck (hg : Good cx β K s a w) {o : Oper} {x : Operand} (ho : o.op = .nilCheck x) {e : Eff} (h : effOp cx.P nid (.nilCheck x) s = some e) : Sound cx K nid s a w o e := by
  simp only [effOp] at h
  split at h
  · rename_i id off hx
    split at h
    · rename_i hl
      cases h
      obtain ⟨h1, h2⟩ := ev_sound hg hx
      obtain ⟨b, h3, h4⟩ := h1.2 hl
      exact sound_value hg rfl (v := a.eval x) (by simp [execOp, ho, h4]) h1 h2
    · cases h
  · rename_i xs hx
    cases h
    obtain ⟨h1, h2⟩ := ev_sound hg hx
    obtain ⟨b, off, h3, h4⟩ := id h1
    exact sound_value hg rfl (v := a.eval x) (by simp [execOp, ho, h3]) h1 h2
  · cases h

theorem sound_extract (hg : Good cx β K s a w) {o : Oper} {x : Operand} {i : Nat} (ho : o.op = .extract x i) {e : Eff} (h : effOp cx.P nid (.extract x i) s = some e) : Sound cx K nid s a w o e := by
  simp only [effOp] at h
  split at h
  · rename_i xs hx
    split at h
    · rename_i y hy
      cases h
      obtain ⟨⟨vs, h1, h2⟩, h3⟩ := ev_sound hg hx
      obtain ⟨v, h4, h5⟩ := h2.get i y hy
      exact sound_value hg rfl (v := v) (by simp [execOp, ho, h1, Instr.extract, h4]) h5 (h3 y (List.mem_of_getElem? hy))
    · cases h
  · cases h

theorem sound_fieldAddr (hg : Good cx β K s a w) {o : Oper} {T : TypeId} {p : Operand} {f : Nat} (ho : o.op = .fieldAddr T p f) {e : Eff} (h : effOp cx.P nid (.fieldAddr T p f) s = some e) : Sound cx K nid s a w o e := by
  simp only [effOp] at h
  split at h
  · rename_i te pv ht hp
    obtain ⟨hv, hw⟩ := ev_sound hg hp
    split at h
    · rename_i off size ag hf
      obtain ⟨i, d, z, q1, q2, q3, q4, q5, q6, q7, q8, q9, q10, q11, q12, q13⟩ := tabOf_spec ht
      rw [q12] at hf
      have hd : ∃ fs, d = .struct fs := by
        cases d <;> first | exact ⟨_, rfl⟩ | simp at hf
      obtain ⟨fs, rfl⟩ := hd
      simp only [List.getElem?_map] at hf
      obtain ⟨fd, hfd, he⟩ := Option.map_eq_some_iff.1 hf
      simp only [Prod.mk.injEq] at he
      split at h
      · cases h
      · rename_i hsz
        have hinf : ∃ ii, cx.P.info? fd.type = some ii ∧ ii.size = size := by
          cases hq : cx.P.info? fd.type with
          | none => rw [hq] at he; simp at he; exact absurd he.2.1.symm hsz
          | some ii => rw [hq] at he; exact ⟨ii, rfl, by simpa using he.2.1⟩
        obtain ⟨ii, hii, hsize⟩ := hinf
        have hrun : ∀ (b o' : Nat), (Instr.fieldAt T (.pointer (some ⟨b, o', none⟩)) f).run cx.P w = .ok (.pointer (some ⟨b, o' + off, none⟩)) w := fun b o' => by
          have hfs : fs[f]? = some fd := by simpa using hfd
          have hnz : ¬ ii.size = 0 := by rw [hsize]; exact hsz
          simp [Instr.fieldAt, run_underlying q2, hfs, Instr.sureAddr, fieldPlace, sizeOf, typeInfo, hii, hnz, Addr.add_mid, he.1]
        split at h
        · rename_i id o'
          split at h
          · rename_i hl
            cases h
            obtain ⟨b, h3, h4⟩ := hv.2 hl
            exact sound_value hg rfl (v := .pointer (some ⟨b, o' + off, none⟩)) (by simp [execOp, ho, h4, hrun]) ⟨rfl, fun _ => ⟨b, h3, rfl⟩⟩ hw
          · cases h
        · rename_i id sz j o'
          split at h
          · rename_i hl
            cases h
            obtain ⟨b, h3, h4⟩ := hv.2 hl
            exact sound_value hg rfl (v := .pointer (some ⟨b, j * sz + o' + off, none⟩)) (by simp [execOp, ho, h4, hrun]) ⟨rfl, fun _ => ⟨b, h3, by rw [Nat.add_assoc]⟩⟩ hw
          · cases h
        · rename_i xs
          cases h
          obtain ⟨b, o', h3, h4, h5, h6⟩ := hv
          exact sound_value hg rfl (v := .pointer (some ⟨b, o' + off, none⟩)) (by simp [execOp, ho, h3, hrun]) ⟨b, o' + off, rfl, h4, h5, h6.drop off⟩ trivial
        · cases h
    · cases h
  · cases h

end
end Go.Proofs.YtcaahmielncmpaaGreat

namespace Go.Proofs.YtcaahmielncmpaaGreat
open Go Go.RowKit

section
variable {cx : Cx} {K : Nat → Prop} {β : Nat → Value} {s : AS} {a : Act} {w : World} {nid : Nat}

/-! ### field, index -/
theorem sound_field (hg : Good cx β K s a w) {o : Oper} {T : TypeId} {x : Operand} {f : Nat} (ho : o.op = .field T x f) {e : Eff} (h : effOp cx.P nid (.field T x f) s = some e) : Sound cx K nid s a w o e := by
  simp only [effOp] at h
  split at h
  · rename_i te cells ht hx
    obtain ⟨⟨vs, h1, h2⟩, h3⟩ := ev_sound hg hx
    split at h
    · rename_i off size ag hf
      obtain ⟨i, d, z, q1, q2, q3, q4, q5, q6, q7, q8, q9, q10, q11, q12, q13⟩ := tabOf_spec ht
      rw [q12] at hf
      have hd : ∃ fs, d = .struct fs := by
        cases d <;> first | exact ⟨_, rfl⟩ | simp at hf
      obtain ⟨fs, rfl⟩ := hd
      simp only [List.getElem?_map] at hf
      obtain ⟨fd, hfd, he⟩ := Option.map_eq_some_iff.1 hf
      simp only [Prod.mk.injEq] at he
      obtain ⟨he1, he2, he3⟩ := he
      split at h
      · rename_i hag
        split at h
        · rename_i c hc
          cases h
          obtain ⟨v, h4, h5⟩ := h2.get off c hc
          have hisagg : (isAgg fd.type).run cx.P w = .ok false w := by
            rw [hag] at he3
            unfold isAgg
            cases hu : cx.P.underlying fd.type with
            | none => rw [hu] at he3; simp at he3
            | some d' =>
              rw [Sem.run_bind, run_underlying hu w]
              rw [hu] at he3
              cases d' <;> simp at he3 ⊢
          have hfs : fs[f]? = some fd := by simpa using hfd
          have hvs : vs.toArray[fd.offset]? = some v := by rw [he1]; simpa using h4
          refine sound_value hg rfl (v := v) ?_ h5 (h3 c (List.mem_of_getElem? hc))
          simp only [execOp, ho, h1, Instr.field, Sem.run_bind, run_underlying q2, Result.andThen_ok, hfs, asAgg, Sem.run_pure, part, hisagg]
          simp only [Bool.false_eq_true, if_false, hvs, Sem.run_pure, Result.andThen_ok]
        · cases h
      · rename_i hag
        split at h
        · rename_i hpf
          obtain ⟨hpos, hfok⟩ := hpf
          cases h
          have hinf : ∃ ii, cx.P.info? fd.type = some ii ∧ ii.size = size := by
            cases hq : cx.P.info? fd.type with
            | none => rw [hq] at he2; simp at he2; omega
            | some ii => rw [hq] at he2; exact ⟨ii, rfl, by simpa using he2⟩
          obtain ⟨ii, hii, hsize⟩ := hinf
          have hisagg : (isAgg fd.type).run cx.P w = .ok true w := by
            unfold isAgg
            cases hu : cx.P.underlying fd.type with
            | none =>
              obtain ⟨d2, k1, _, _, k4⟩ := tabOf_kind ht
              rw [q2] at k1
              cases k1
              rw [k4] at hfok
              have := (List.all_eq_true.1 hfok) fd (List.mem_of_getElem? hfd)
              rw [hu] at this
              cases this
            | some d' =>
              rw [Sem.run_bind, run_underlying hu w]
              rw [hu] at he3
              have hag2 : ag = true := by simpa using hag
              subst hag2
              cases d' <;> simp at he3 ⊢
          have hfs : fs[f]? = some fd := by simpa using hfd
          refine sound_value hg rfl (v := .agg (((vs.drop off).take size).toArray)) ?_ ⟨(vs.drop off).take size, rfl, (h2.drop off).take size⟩ (fun y hy => h3 y (List.mem_of_mem_drop (List.mem_of_mem_take hy)))
          have hex : vs.toArray.extract off (off + size) = ((vs.drop off).take size).toArray := by
            apply Array.ext'
            simp [Array.toList_extract, List.extract]
          simp only [execOp, ho, h1, Instr.field, Sem.run_bind, run_underlying q2, Result.andThen_ok, hfs, asAgg, Sem.run_pure, part, hisagg]
          simp only [if_true, sizeOf, typeInfo, hii, Sem.run_bind, Sem.run_pure, Result.andThen_ok, he1, hsize, hex]
          simp [hii, hsize, he1, hex]
        · cases h
    · cases h
  · cases h

theorem sound_indexAddr (hg : Good cx β K s a w) {o : Oper} {T : TypeId} {x y : Operand} (ho : o.op = .indexAddr T x y) {e : Eff} (h : effOp cx.P nid (.indexAddr T x y) s = some e) (hs : e.side) : Sound cx K nid s a w o e := by
  simp only [effOp] at h
  split at h
  · rename_i te rows n _ ht hx hy
    obtain ⟨hv, hw⟩ := ev_sound hg hx
    have hi := (ev_sound hg hy).1
    simp only [gV, g1, gC, Rep] at hi
    simp only [gV] at hv
    split at h
    · rename_i E hE
      split at h
      · rename_i tE htE
        obtain ⟨i, d, z, q1, q2, q3, q4, q5, q6, q7, q8, q9, q10, q11, q12, q13⟩ := tabOf_spec ht
        rw [q11] at hE
        have hd : d = .slice E := by
          cases d <;> simp at hE
          rw [hE]
        subst hd
        have hrun : ∀ (b off len cap : Nat), 0 ≤ n → n < len → (Instr.indexAt T (.slice (some ⟨b, off, none⟩) len cap) (.int .i64 n)).run cx.P w = .ok (.pointer (some ⟨b, off + n.toNat * tE.size, none⟩)) w := fun b off len cap h0 h1 => by
          simp [Instr.indexAt, asIntOf, run_underlying q2, h0, h1, run_sizeOf htE, Addr.add_mid]
        cases h
        obtain ⟨s1, s2, s3⟩ := hs
        obtain ⟨ad, cap, h4, _, h5⟩ := hv
        have hlt : n.toNat < rows.length := by omega
        rcases h5 with h5 | ⟨b, off, sz, rfl, h6, h7⟩
        · subst h5; simp at hlt
        · have hrow := h7.get n.toNat (rows.getD n.toNat []) (by rw [List.getD_eq_getElem?_getD, List.getElem?_eq_getElem hlt]; rfl)
          have hsz : sz = tE.size := by rw [← hrow.1]; exact s3
          subst hsz
          exact sound_value hg rfl (v := .pointer (some ⟨b, off + n.toNat * tE.size, none⟩)) (by simp [execOp, ho, h4, hi, hrun b off rows.length cap s1 s2]) ⟨b, _, rfl, h6, hrow.2⟩ trivial
      · cases h
    · cases h
  · rename_i te xv n _ ht hx hy
    obtain ⟨hv, hw⟩ := ev_sound hg hx
    have hi := (ev_sound hg hy).1
    simp only [gV, g1, gC, Rep] at hi
    split at h
    · rename_i E hE
      split at h
      · rename_i tE htE
        obtain ⟨i, d, z, q1, q2, q3, q4, q5, q6, q7, q8, q9, q10, q11, q12, q13⟩ := tabOf_spec ht
        rw [q11] at hE
        have hd : d = .slice E := by
          cases d <;> simp at hE
          rw [hE]
        subst hd
        have hrun : ∀ (b off len cap : Nat), 0 ≤ n → n < len → (Instr.indexAt T (.slice (some ⟨b, off, none⟩) len cap) (.int .i64 n)).run cx.P w = .ok (.pointer (some ⟨b, off + n.toNat * tE.size, none⟩)) w := fun b off len cap h0 h1 => by
          simp [Instr.indexAt, asIntOf, run_underlying q2, h0, h1, run_sizeOf htE, Addr.add_mid]
        split at h
        · rename_i rows fr
          cases h
          obtain ⟨s1, s2, s3⟩ := hs
          simp only [gV, g1, gC, Rep] at hv
          obtain ⟨ad, cap, h4, _, h5⟩ := hv
          have hlt : n.toNat < rows.length := by omega
          rcases h5 with h5 | ⟨b, off, sz, rfl, h6, h7⟩
          · subst h5; simp at hlt
          · have hrow := h7.get n.toNat (rows.getD n.toNat []) (by rw [List.getD_eq_getElem?_getD, List.getElem?_eq_getElem hlt]; rfl)
            have hsz : sz = tE.size := by rw [← hrow.1]; exact s3
            subst hsz
            refine sound_value hg rfl (v := .pointer (some ⟨b, off + n.toNat * tE.size, none⟩)) (by simp [execOp, ho, h4, hi, hrun b off rows.length cap s1 s2]) ?_ trivial
            refine ⟨b, _, rfl, h6.1, h6.2.1, hrow.2.mono (fun _ _ ho => ho.weaken (fun _ h => h) (by simp)) (fun _ _ _ _ _ h => h) (fun _ _ h => h)⟩
        · rename_i id
          split at h
          · rename_i e' sz rows fr hob
            split at h
            · rename_i hsz
              cases h
              obtain ⟨s1, s2⟩ := hs
              have hval := hv.2 (by rw [hob]; rfl)
              obtain ⟨_, _, xs, h3, h4⟩ := hg.objs id _ hob
              rcases h3.2 with ⟨hn, h0⟩ | ⟨g, cap, cur, hvv, hgg, hh, r⟩
              · rw [h0] at s2; simp at s2; omega
              · refine sound_value hg rfl (v := .pointer (some ⟨g, 0 + n.toNat * tE.size, none⟩)) (by simp [execOp, ho, hval, hvv, hi, hrun g 0 rows.length cap s1 s2]) ?_ hw
                exact ⟨rfl, fun _ => ⟨g, by rw [hvv]; rfl, by rw [hsz]; simp⟩⟩
            · cases h
          · cases h
        · rename_i id m
          split at h
          · rename_i e' sz rows fr hob
            split at h
            · rename_i hsz
              cases h
              obtain ⟨s1, s2, s3⟩ := hs
              obtain ⟨ao, m', cap', hb, hmm, hval⟩ := hv.2 (by rw [hob]; rfl)
              obtain ⟨_, _, xs, h3, h4⟩ := hg.objs id _ hob
              rcases h3.2 with ⟨hn, h0⟩ | ⟨g, cap, cur, hvv, hgg, hh, r⟩
              · rw [h0] at s3; omega
              · rw [hb] at hvv
                cases hvv
                refine sound_value hg rfl (v := .pointer (some ⟨g, 0 + n.toNat * tE.size, none⟩)) (by simp [execOp, ho, hval, hi, hrun g 0 m cap' s1 s2]) ?_ hw
                exact ⟨rfl, fun _ => ⟨g, by rw [hb]; rfl, by rw [hsz]; simp⟩⟩
            · cases h
          · cases h
        · cases h
      · cases h
    · cases h
  · cases h

/-! ### len, max, min -/
theorem rowsOf_sound (hg : Good cx β K s a w) {av : AV} {v : Value} (hv : gV cx β s w av v) {rows : List (List C)} {fr : Bool} {ids : List Nat} (h : s.rowsOf av = some (rows, fr, ids)) :
    Rep (fun b off => b < w.heap.size ∧ (fr = true → cx.F ≤ b ∧ off = 0 ∧ ∃ cs T, w.heap[b]? = some (.cells cs T (0, 0)))) w (.slice rows) v ∧
    (∀ {M' : Nat → Prop}, (∀ b, M' b → Mut cx β s b) → (∀ id ∈ ids, ∀ b, blkOf (β id) = some b → ¬ M' b) → Rep (okA cx.F M' w fr) w (.slice rows) v) := by
  have key : ∀ {M' : Nat → Prop}, (∀ b, M' b → Mut cx β s b) → (∀ id ∈ ids, ∀ b, blkOf (β id) = some b → ¬ M' b) → Rep (okA cx.F M' w fr) w (.slice rows) v := by
    intro M' hM hid
    unfold AS.rowsOf at h
    split at h
    · rename_i rows' fr'
      simp only [Option.some.injEq, Prod.mk.injEq] at h
      obtain ⟨rfl, rfl, rfl⟩ := h
      exact Rep.weaken hM (fun h => h) hv
    · simp only [Option.some.injEq, Prod.mk.injEq] at h
      obtain ⟨rfl, rfl, rfl⟩ := h
      have hv' : v = .slice none 0 0 := hv
      subst hv'
      simp only [Rep]
      exact ⟨none, 0, rfl, Nat.le_refl _, .inl trivial⟩
    · rename_i id
      split at h
      · rename_i e sz rows' fr' ho
        simp only [Option.some.injEq, Prod.mk.injEq] at h
        obtain ⟨rfl, rfl, rfl⟩ := h
        have := hv.2 (by rw [ho]; rfl)
        rw [this]
        exact row_rep hg ho hM (hid id (by simp))
      · cases h
    · cases h
  refine ⟨?_, fun hM hid => key hM hid⟩
  exact (key (M' := fun _ => False) (fun _ h => h.elim) (fun _ _ _ _ h => h)).mono (fun b off ho => ⟨ho.1, ho.2.2⟩) (fun _ _ _ _ _ h => h)

theorem sound_len (hg : Good cx β K s a w) {o : Oper} {T : TypeId} {x : Operand} (ho : o.op = .call { callee := .builtin .len, args := #[x], argTypes := #[T] }) {e : Eff}
    (h : effOp cx.P nid (.call { callee := .builtin .len, args := #[x], argTypes := #[T] }) s = some e) : Sound cx K nid s a w o e := by
  simp only [effOp] at h
  split at h
  · rename_i te rows ht hx
    obtain ⟨hv, hw⟩ := ev_sound hg hx
    simp only [gV] at hv
    split at h
    · rename_i hE
      cases h
      obtain ⟨i, d, z, q1, q2, q3, q4, q5, q6, q7, q8, q9, q10, q11, q12, q13⟩ := tabOf_spec ht
      have hd : ∃ E, d = .slice E := by
        rw [q11] at hE
        cases d <;> simp at hE
        exact ⟨_, rfl⟩
      obtain ⟨E, rfl⟩ := hd
      obtain ⟨ad, cap, h4, _⟩ := hv
      refine sound_value hg rfl (v := .int .i64 rows.length) ?_ (gV_iv _) trivial
      simp [execOp, ho, resolve, invoke, builtin, Builtin.len_, run_underlying q2, h4, goInt]
    · cases h
  · rename_i te xv _ ht hx
    obtain ⟨hv, hw⟩ := ev_sound hg hx
    split at h
    · rename_i hE
      split at h
      · rename_i rows fr ids hr
        cases h
        obtain ⟨i, d, z, q1, q2, q3, q4, q5, q6, q7, q8, q9, q10, q11, q12, q13⟩ := tabOf_spec ht
        have hd : ∃ E, d = .slice E := by
          rw [q11] at hE
          cases d <;> simp at hE
          exact ⟨_, rfl⟩
        obtain ⟨E, rfl⟩ := hd
        have := (rowsOf_sound hg hv hr).1
        simp only [Rep] at this
        obtain ⟨ad, cap, h4, _⟩ := this
        refine sound_value hg rfl (v := .int .i64 rows.length) ?_ (gV_iv _) trivial
        simp [execOp, ho, resolve, invoke, builtin, Builtin.len_, run_underlying q2, h4, goInt]
      · cases h
    · split at h
      · rename_i b _ hu _
        cases h
        simp only [gV, g1, gC, Rep] at hv
        refine sound_value hg rfl (v := .int .i64 b.size) ?_ (gV_iv _) trivial
        simp [execOp, ho, resolve, invoke, builtin, Builtin.len_, run_underlying hu, hv, goInt]
      · cases h
  · cases h

theorem sound_max (hg : Good cx β K s a w) {o : Oper} {ts : Array TypeId} {x y : Operand} (ho : o.op = .call { callee := .builtin .max, args := #[x, y], argTypes := ts }) {e : Eff}
    (h : effOp cx.P nid (.call { callee := .builtin .max, args := #[x, y], argTypes := ts }) s = some e) : Sound cx K nid s a w o e := by
  simp only [effOp] at h
  split at h
  · rename_i m _ n _ hx hy
    cases h
    have h1 := (ev_sound hg hx).1
    have h2 := (ev_sound hg hy).1
    simp only [gV, g1, gC, Rep] at h1 h2
    refine sound_value hg rfl (v := .int .i64 (max m n)) ?_ (gV_iv _) trivial
    have : (if n > m then n else m) = max m n := by omega
    simp [execOp, ho, resolve, invoke, builtin, Builtin.max_, Builtin.max2, h1, h2, this]
  · cases h

theorem sound_min (hg : Good cx β K s a w) {o : Oper} {ts : Array TypeId} {x y : Operand} (ho : o.op = .call { callee := .builtin .min, args := #[x, y], argTypes := ts }) {e : Eff}
    (h : effOp cx.P nid (.call { callee := .builtin .min, args := #[x, y], argTypes := ts }) s = some e) : Sound cx K nid s a w o e := by
  simp only [effOp] at h
  split at h
  · rename_i m _ n _ hx hy
    cases h
    have h1 := (ev_sound hg hx).1
    have h2 := (ev_sound hg hy).1
    simp only [gV, g1, gC, Rep] at h1 h2
    refine sound_value hg rfl (v := .int .i64 (min m n)) ?_ (gV_iv _) trivial
    have : (if n < m then n else m) = min m n := by omega
    simp [execOp, ho, resolve, invoke, builtin, Builtin.min_, Builtin.min2, h1, h2, this]
  · cases h

end
end Go.Proofs.YtcaahmielncmpaaGreat

namespace Go.Proofs.YtcaahmielncmpaaGreat
open Go Go.RowKit

theorem splice_eq {α : Type} (l : List α) (off : Nat) (m : List α) : splice l off m = l.take off ++ m ++ l.drop (off + m.length) := by
  unfold splice
  split
  · rename_i h
    obtain ⟨rfl, h2⟩ := h
    simp [h2]
  · rfl

theorem splice_length {α : Type} (l : List α) (off : Nat) (m : List α) (h : off + m.length ≤ l.length) : (splice l off m).length = l.length := by
  rw [splice_eq]
  simp
  omega

theorem flatten_store {α : Type} {sz : Nat} : ∀ (rows : List (List α)) (i off : Nat) (cs : List α), (∀ r ∈ rows, r.length = sz) → i < rows.length → off + cs.length ≤ sz →
    (rows.set i (splice (rows.getD i []) off cs)).flatten = rows.flatten.take (i * sz + off) ++ cs ++ rows.flatten.drop (i * sz + off + cs.length)
  | [], i, off, cs, _, h, _ => by simp at h
  | r :: rows, 0, off, cs, hr, _, ho => by
    have hl : r.length = sz := hr r (by simp)
    simp only [List.set_cons_zero, List.getD_cons_zero, List.flatten_cons, Nat.zero_mul, Nat.zero_add]
    rw [splice_eq, List.take_append_of_le_length (by omega), List.drop_append_of_le_length (by omega)]
    simp
  | r :: rows, i + 1, off, cs, hr, hi, ho => by
    have hl : r.length = sz := hr r (by simp)
    have ih := flatten_store rows i off cs (fun r' h' => hr r' (by simp [h'])) (by simpa using hi) ho
    simp only [List.set_cons_succ, List.getD_cons_succ, List.flatten_cons, ih]
    have e1 : (i + 1) * sz + off = r.length + (i * sz + off) := by rw [hl, Nat.add_mul]; omega
    have e2 : (i + 1) * sz + off + cs.length = r.length + (i * sz + off + cs.length) := by rw [hl, Nat.add_mul]; omega
    rw [e1, show r.length + (i * sz + off) + cs.length = r.length + (i * sz + off + cs.length) by omega, List.take_length_add_append, List.drop_length_add_append]
    simp

theorem length_flatten {α : Type} {sz : Nat} : ∀ (rows : List (List α)), (∀ r ∈ rows, r.length = sz) → rows.flatten.length = rows.length * sz
  | [], _ => by simp
  | r :: rows, h => by
    have := length_flatten rows (fun r' h' => h r' (by simp [h']))
    simp [this, h r (by simp), Nat.add_mul]
    omega

theorem take_splice {α : Type} (l m : List α) (p n : Nat) (h : p + m.length ≤ n) (hn : n ≤ l.length) :
    (l.take p ++ m ++ l.drop (p + m.length)).take n = (l.take n).take p ++ m ++ (l.take n).drop (p + m.length) := by
  rw [List.take_append]
  have hA : (l.take p ++ m).length = p + m.length := by simp; omega
  rw [hA, List.take_of_length_le (by omega), List.drop_take, List.take_take, Nat.min_eq_left (by omega)]

section
variable {cx : Cx} {K : Nat → Prop} {β : Nat → Value} {s : AS} {a : Act} {w : World} {nid : Nat}

theorem below_setRow {N : Nat} {g : Nat} (cs : Array Value) (h : N ≤ g) : Below N w (w.setRow g cs) :=
  ⟨rfl, rfl, rfl, by simp, fun k hk => setRow_other w g k cs (by omega)⟩

theorem run_store_block {P : Program} {T : Nat} {te : TE} (ht : tabOf P T = some te) {g off : Nat} {T' : TypeId} {cur : Array Value} (hh : w.heap[g]? = some (.cells cur T' (0, 0))) {v : Value}
    (hl : v.cells.size = te.size) (hf : off + te.size ≤ cur.size) (h1 : ∀ u ∈ v.cells.toList, u.oneCell' = true) :
    (storeVar T ⟨g, off, none⟩ v).run P w = .ok () (w.setRow g (cur.toList.take off ++ v.cells.toList ++ cur.toList.drop (off + v.cells.toList.length)).toArray) := by
  have := run_storeCells_at P g off T' v.cells.toList 0 cur w hh (by simp [hl]; omega) h1
  simp only [Nat.add_zero] at this
  simp [storeVar, run_sizeOf ht, hl, this]

theorem sound_store (hg : Good cx β K s a w) {o : Oper} {T : TypeId} {p x : Operand} (ho : o.op = .store T p x) {e : Eff} (h : effOp cx.P nid (.store T p x) s = some e) (hs : e.side) : Sound cx K nid s a w o e := by
  simp only [effOp] at h
  split at h
  · rename_i te id off y ht hp hx
    obtain ⟨hv, hw⟩ := ev_sound hg hp
    obtain ⟨hu, hwu⟩ := ev_sound hg hx
    split at h
    · rename_i cells hob
      split at h
      · rename_i hc
        cases h
        obtain ⟨b, T', vs, h1, h2, h3, h4⟩ := hg.objs id _ hob
        obtain ⟨b', h5, h6⟩ := hv.2 (by rw [hob]; rfl)
        rw [h1] at h5
        simp [blkOf] at h5
        subst h5
        obtain ⟨h7, h8⟩ := g1.cells hu
        have hsz : (a.eval x).cells.size = te.size := by rw [← hc.1, h7.length]; simp
        have hvs : cells.length = vs.size := by rw [h4.length]; simp
        have hrun := run_store_block (w := w) ht h3 hsz (off := off) (by omega) h8
        refine ⟨Go.undef, _, .inr ⟨by simp only [execOp, ho, h6, Instr.storeAt, Instr.sureAddr, Sem.run_bind, Sem.run_pure, Result.andThen_ok, hrun]; rfl, rfl⟩, β, ?_, rfl, trivial⟩
        have hbk : ∀ k, blkOf (β id) ≠ some k → (w.setRow b (vs.toList.take off ++ (a.eval x).cells.toList ++ vs.toList.drop (off + (a.eval x).cells.toList.length)).toArray).heap[k]? = w.heap[k]? := fun k hk =>
          setRow_other w b k _ fun e => hk (by rw [h1, e]; rfl)
        have hst := write_step hg hob (.box (splice cells off y.cells)) (w' := w.setRow b (vs.toList.take off ++ (a.eval x).cells.toList ++ vs.toList.drop (off + (a.eval x).cells.toList.length)).toArray) (by simp) hbk
        have hwc : ∀ z ∈ splice cells off y.cells, z.wf K := by
          rw [splice_eq]
          intro z hz
          simp only [List.append_assoc, List.mem_append] at hz
          rcases hz with hz | hz | hz
          · exact (hg.wf.heap id _ hob).2 z (List.mem_of_mem_take hz)
          · exact A1.wf_cells hwu z hz
          · exact (hg.wf.heap id _ hob).2 z (List.mem_of_mem_drop hz)
        refine (write_good (o' := .box (splice cells off y.cells)) hg hob (below_setRow _ h2) hbk hwc ?_).monoK fun _ h => .inl h
        refine ⟨b, T', _, h1, h2, setRow_heap w b vs _ T' (0, 0) h3, ?_⟩
        have hall : All2 (gC cx β s w) (splice cells off y.cells) (vs.toList.take off ++ (a.eval x).cells.toList ++ vs.toList.drop (off + (a.eval x).cells.toList.length)) := by
          rw [splice_eq]
          refine ((h4.take off).append h7).append ?_
          rw [h7.length]
          exact h4.drop _
        exact hall.mono' fun z v hz hv => hst.gC (hwc z hz) hv
      · cases h
    · cases h
  · rename_i te id sz i off y ht hp hx
    obtain ⟨hv, hw⟩ := ev_sound hg hp
    obtain ⟨hu, hwu⟩ := ev_sound hg hx
    split at h
    · rename_i e' sz' rows fr cs f ids hob hres
      split at h
      · rename_i hc
        obtain ⟨hsz', hlen, hoff, hid⟩ := hc
        subst hsz'
        cases h
        obtain ⟨r0, r1, xs, h3, h4⟩ := hg.objs id _ hob
        obtain ⟨b', h5, h6⟩ := hv.2 (by rw [hob]; rfl)
        rcases h3.2 with ⟨hn, h0⟩ | ⟨g, cap, cur, hvv, hgg, hh, c1, c2, c3, c4⟩
        · rw [hn] at h5; simp [blkOf] at h5
        rw [hvv] at h5
        simp [blkOf] at h5
        subst h5
        obtain ⟨h7, h8⟩ := g1.cells hu
        have hylen : y.cells.length = te.size := by rw [← resCs_length hres]; exact hlen
        have hsz : (a.eval x).cells.size = te.size := by rw [← hylen, h7.length]; simp
        have hx1 : xs.length = rows.length * sz' := h3.1
        have hmul : (i + 1) * sz' ≤ rows.length * sz' := Nat.mul_le_mul_right _ hs
        have hmul2 : rows.length * sz' ≤ cap * sz' := Nat.mul_le_mul_right _ c1
        rw [Nat.add_mul] at hmul
        have hfit : i * sz' + off + te.size ≤ rows.length * sz' := by omega
        have hrun := run_store_block (w := w) ht hh hsz (off := i * sz' + off) (by omega) h8
        -- first the objects that go into the row are let go, then the row is written
        have hk := kill_good hg ids
        have hks := kill_step hg ids
        have hob' : (s.ups (ids.map (·, none))).obj id = some (.row e' sz' rows fr) := by rw [AS.obj_kill, if_neg hid]; exact hob
        refine ⟨Go.undef, _, .inr ⟨by simp only [execOp, ho, h6, Instr.storeAt, Instr.sureAddr, Sem.run_bind, Sem.run_pure, Result.andThen_ok, hrun]; rfl, rfl⟩, β, ?_, rfl, trivial⟩
        dsimp only
        rw [AS.ups_append]
        have hbk : ∀ k, blkOf (β id) ≠ some k → (w.setRow g (cur.toList.take (i * sz' + off) ++ (a.eval x).cells.toList ++ cur.toList.drop (i * sz' + off + (a.eval x).cells.toList.length)).toArray).heap[k]? = w.heap[k]? := fun k hk =>
          setRow_other w g k _ fun e => hk (by rw [hvv, e]; rfl)
        have hst := write_step hk hob' (.row e' sz' (rows.set i (splice (rows.getD i []) off cs)) (fr && f)) (w' := w.setRow g (cur.toList.take (i * sz' + off) ++ (a.eval x).cells.toList ++ cur.toList.drop (i * sz' + off + (a.eval x).cells.toList.length)).toArray) (by simp) hbk
        refine (write_good (o' := .row e' sz' (rows.set i (splice (rows.getD i []) off cs)) (fr && f)) hk hob' (below_setRow _ hgg) hbk trivial ?_).monoK fun _ h => .inl h
        have hcslen : cs.length = te.size := hlen
        have hvlen : (a.eval x).cells.toList.length = te.size := by simpa using hsz
        have hrowi : (rows.getD i []).length = sz' := r1 _ (by rw [List.getD_eq_getElem?_getD, List.getElem?_eq_getElem hs]; exact List.getElem_mem hs)
        have hrows' : ∀ r ∈ rows.set i (splice (rows.getD i []) off cs), r.length = sz' := by
          intro r hr
          rcases List.mem_or_eq_of_mem_set hr with hr | rfl
          · exact r1 r hr
          · rw [splice_length _ _ _ (by omega)]; exact hrowi
        refine ⟨r0, hrows', xs.take (i * sz' + off) ++ (a.eval x).cells.toList ++ xs.drop (i * sz' + off + te.size), ⟨?_, .inr ⟨g, cap, _, ?_, hgg, setRow_heap w g cur _ e' (0, 0) hh, by simpa using c1, c2, ?_, ?_⟩⟩, ?_⟩
        · simp only [List.length_append, List.length_take, List.length_drop, List.length_set]
          omega
        · rw [List.length_set]; exact hvv
        · have hcur : cur.toList.length = cap * sz' := by simpa using c3
          simp only [List.size_toArray, List.length_append, List.length_take, List.length_drop]
          omega
        · rw [List.length_set, ← c4]
          have hcur : cur.toList.length = cap * sz' := by simpa using c3
          have := take_splice cur.toList (a.eval x).cells.toList (i * sz' + off) (rows.length * sz') (by omega) (by omega)
          rw [hvlen] at this
          rw [hvlen]
          exact this
        · rw [flatten_store rows i off cs r1 hs (by omega)]
          have hok : ∀ b' off', okA cx.F (Mut cx β s) w fr b' off' → okA cx.F (Mut cx β (s.ups (ids.map (·, none)))) w (fr && f) b' off' := fun b' off' ho => ho.weaken (fun b hb => by
            rcases hb with hb | ⟨i', o', hb1, hb2⟩
            · exact .inl hb
            · rw [AS.obj_kill] at hb1
              split at hb1
              · cases hb1
              · exact .inr ⟨i', o', hb1, hb2⟩) (by simp +contextual)
          have hold : All2 (Rep (okA cx.F (Mut cx β (s.ups (ids.map (·, none)))) w (fr && f)) w) rows.flatten xs := h4.mono fun x v hr => hr.mono hok (fun _ _ _ _ _ h => h)
          have hnew : All2 (Rep (okA cx.F (Mut cx β (s.ups (ids.map (·, none)))) w (fr && f)) w) cs (a.eval x).cells.toList := by
            have := resCs_sound hg (M' := Mut cx β (s.ups (ids.map (·, none)))) (fun b hb => by
              rcases hb with hb | ⟨i', o', hb1, hb2⟩
              · exact .inl hb
              · rw [AS.obj_kill] at hb1
                split at hb1
                · cases hb1
                · exact .inr ⟨i', o', hb1, hb2⟩) hres h7 (fun id' hi' b hb => by
              obtain ⟨o', ho'⟩ := resCs_live hres id' hi'
              rintro (hm | ⟨i2, o2, hb1, hb2⟩)
              · have := hg.sb b hm
                have := (hg.blk ho' hb).1
                omega
              · rw [AS.obj_kill] at hb1
                split at hb1
                · cases hb1
                · rename_i hni
                  exact hg.inj id' i2 o' o2 ho' hb1 (fun e => hni (e ▸ hi')) b hb hb2)
            exact this.mono fun _ _ r => r.weaken (fun _ h => h) (by simp +contextual)
          have hall := ((hold.take (i * sz' + off)).append hnew).append (hold.drop (i * sz' + off + te.size))
          rw [hcslen]
          exact hall.mono fun x v hr => hst.rep x v hr
      · cases h
    · cases h
  · cases h

end
end Go.Proofs.YtcaahmielncmpaaGreat

namespace Go.Proofs.YtcaahmielncmpaaGreat
open Go Go.RowKit

theorem flatten_replicate_get {α : Type} (z : List α) : ∀ (n j : Nat), (List.replicate n z).flatten[j]? = if j < n * z.length then z[j % z.length]? else none
  | 0, j => by simp
  | n + 1, j => by
    rw [List.replicate_succ, List.flatten_cons, List.getElem?_append, flatten_replicate_get z n]
    by_cases h : j < z.length
    · rw [if_pos h, if_pos (by rw [Nat.add_mul]; omega), Nat.mod_eq_of_lt h]
    · rw [if_neg h]
      have e : (n + 1) * z.length = n * z.length + z.length := by rw [Nat.add_mul]; omega
      by_cases h2 : j < (n + 1) * z.length
      · have hm : j % z.length = (j - z.length) % z.length := Nat.mod_eq_sub_mod (by omega)
        rw [if_pos h2, if_pos (by omega), hm]
      · rw [if_neg h2, if_neg (by omega)]

theorem All2.flatten_replicate {α β : Type} {R : α → β → Prop} {l : List α} {m : List β} (h : All2 R l m) : ∀ n, All2 R (List.replicate n l).flatten (List.replicate n m).flatten
  | 0 => by simpa using All2.nil
  | n + 1 => by
    simp only [List.replicate_succ, List.flatten_cons]
    exact h.append (All2.flatten_replicate h n)

theorem madeCells_toList (z : Array Value) (hz : 0 < z.size) (n : Nat) : (madeCells z (n * z.size)).toList = (List.replicate n z.toList).flatten := by
  apply List.ext_getElem?
  intro j
  rw [flatten_replicate_get]
  simp only [madeCells, Array.toList_map, Array.toList_range, List.getElem?_map, Array.length_toList]
  by_cases h : j < n * z.size
  · rw [if_pos h, List.getElem?_range h]
    have hm : j % z.size < z.size := Nat.mod_lt _ hz
    simp [getElem!_pos, hm]
  · rw [if_neg h, List.getElem?_eq_none (by simp; omega)]
    rfl

theorem madeCells_take (z : Array Value) (m n : Nat) (h : m ≤ n) : (madeCells z n).toList.take m = (madeCells z m).toList := by
  apply List.ext_getElem?
  intro j
  simp only [madeCells, Array.toList_map, Array.toList_range, List.getElem?_take, List.getElem?_map]
  by_cases hj : j < m
  · rw [if_pos hj, List.getElem?_range (by omega), List.getElem?_range hj]
  · rw [if_neg hj, List.getElem?_eq_none (by simp; omega)]
    rfl

section
variable {cx : Cx} {K : Nat → Prop} {β : Nat → Value} {s : AS} {a : Act} {w : World} {nid : Nat}

theorem resC_acOf {v : Value} {c : C} {fr : Bool} {ids : List Nat} (h : s.resC (acOf v) = some (c, fr, ids)) : fr = true ∧ ids = [] := by
  unfold acOf at h
  split at h <;> simp only [AS.resC, Option.some.injEq, Prod.mk.injEq, reduceCtorEq] at h <;> exact ⟨by simpa using h.2.1.symm, h.2.2.symm⟩

theorem resCs_acOf : ∀ {vs : List Value} {cs : List C} {fr : Bool} {ids : List Nat}, s.resCs (vs.map acOf) = some (cs, fr, ids) → fr = true ∧ ids = []
  | [], cs, fr, ids, h => by
    simp only [List.map_nil, AS.resCs, Option.some.injEq, Prod.mk.injEq] at h
    exact ⟨h.2.1.symm, h.2.2.symm⟩
  | v :: vs, cs, fr, ids, h => by
    simp only [List.map_cons, AS.resCs] at h
    split at h
    · rename_i c f i cs' f' i' h1 h2
      simp only [Option.some.injEq, Prod.mk.injEq] at h
      obtain ⟨rfl, rfl, rfl⟩ := h
      obtain ⟨rfl, rfl⟩ := resC_acOf h1
      obtain ⟨rfl, rfl⟩ := resCs_acOf h2
      exact ⟨rfl, rfl⟩
    · cases h

/-- The zero value's cells as data. -/
theorem zero_rep (hg : Good cx β K s a w) {z : Value} (hz : z.cells.toList.all (·.oneCell') = true) {cs : List C} {fr : Bool} {ids : List Nat} (h : s.resCs (z.cells.toList.map acOf) = some (cs, fr, ids)) {M' : Nat → Prop}
    (hM : ∀ b, M' b → Mut cx β s b) {fr' : Bool} : All2 (Rep (okA cx.F M' w fr') w) cs z.cells.toList := by
  obtain ⟨rfl, rfl⟩ := resCs_acOf h
  have := resCs_sound hg hM h (vs := z.cells.toList) (All2.mk (by simp) fun i x v h1 h2 => by
    rw [List.getElem?_map, h2] at h1
    cases h1
    exact gC_acOf v ((List.all_eq_true.1 hz) v (List.mem_of_getElem? h2))) (by simp)
  exact this.mono fun _ _ r => r.weaken (fun _ h => h) (fun _ => rfl)

/-- A new row. -/
theorem sound_newRow (hg : Good cx β K s a w) (hn : ¬ K nid) {o : Oper} {E sz : Nat} {rows : List (List C)} {fr : Bool} {bw : Value} {cur : Array Value} {cap : Nat} {e : Eff} (he : e.ups = [(nid, some (.row E sz rows fr))])
    (hval : e.val = .v (.one (.arr nid))) {w0 : World} (hw0 : w0 = w ∨ w0 = w.drew)
    (hr : (execOp a.eval o).run cx.P w = .ok (.value bw) (w0.alloc (.cells cur E))) (hbw : bw = .slice (some ⟨w.heap.size, 0, none⟩) rows.length cap) (hsz : 0 < sz) (hrows : ∀ r ∈ rows, r.length = sz)
    (hcap : rows.length ≤ cap) (hmax : cap ≤ maxLen) (hcur : cur.size = cap * sz)
    (hall : All2 (Rep (okA cx.F (Mut cx β s) w fr) w) rows.flatten (cur.toList.take (rows.length * sz))) : Sound cx K nid s a w o e := by
  subst hbw
  have hb : Below w.heap.size w (w0.alloc (.cells cur E)) := by
    rcases hw0 with rfl | rfl
    · exact (Below.refl _ _).alloc (Nat.le_refl _) _
    · exact ((Below.refl _ _).drew).alloc (Nat.le_refl _) _
  have hhs : w0.heap = w.heap := by rcases hw0 with rfl | rfl <;> rfl
  have hnew : (w0.alloc (.cells cur E)).heap[w.heap.size]? = some (.cells cur E (0, 0)) := by
    rw [← hhs]; exact heap_alloc_new w0 _
  have hbv : ∀ b, blkOf (.slice (some ⟨w.heap.size, 0, none⟩) rows.length cap) = some b → w.heap.size ≤ b := by
    intro b h
    simp [blkOf] at h
    omega
  have hs := alloc_step hg hn (.row E sz rows fr) hb hbv
  refine sound_alloc hg hn he hr hb hbv trivial ?_ ?_ (by rw [hval]; exact .inr rfl)
  · refine ⟨hsz, hrows, _, ⟨?_, .inr ⟨w.heap.size, cap, cur, rfl, hg.ext.size, hnew, hcap, hmax, hcur, rfl⟩⟩, hall.mono fun x v h => hs.rep x v h⟩
    have hc : cur.toList.length = cap * sz := by simpa using hcur
    rw [List.length_take, hc, Nat.min_eq_left (Nat.mul_le_mul_right _ hcap)]
  · rw [hval]
    exact ⟨rfl, fun _ => by simp [upd]⟩

theorem sound_makeSlice (hg : Good cx β K s a w) (hn : ¬ K nid) {o : Oper} {T : TypeId} {x y : Operand} (ho : o.op = .makeSlice T x y) {e : Eff} (h : effOp cx.P nid (.makeSlice T x y) s = some e) (hs : e.side) : Sound cx K nid s a w o e := by
  simp only [effOp] at h
  split at h
  · rename_i te l _ c _ ht hx hy
    have h1 := (ev_sound hg hx).1
    have h2 := (ev_sound hg hy).1
    simp only [gV, g1, gC, Rep] at h1 h2
    split at h
    · rename_i E hE
      split at h
      · rename_i tE htE
        split at h
        · rename_i zr _ _ hzr
          split at h
          · rename_i hsz
            cases h
            obtain ⟨s1, s2, s3, s4⟩ := hs
            obtain ⟨i, d, z, q1, q2, q3, q4, q5, q6, q7, q8, q9, q10, q11, q12, q13⟩ := tabOf_spec ht
            obtain ⟨i', d', z', p1, p2, p3, p4, p5, p6, p7, p8, p9, p10, p11, p12, p13⟩ := tabOf_spec htE
            rw [q11] at hE
            have hd : d = .slice E := by
              cases d <;> simp at hE
              rw [hE]
            subst hd
            rw [p8] at hzr
            have hrun := run_make (P := cx.P) w T E i' z' q2 p1 p3 .i64 .i64 l c s1 s2 (by rw [← p7]; exact s3) s4
            have hzl : zr.length = tE.size := by
              have := resCs_length hzr
              rw [this, List.length_map, Array.length_toList, p4, p6]
            have hzp : 0 < z'.cells.size := by rw [p4, ← p6]; exact hsz
            refine sound_newRow hg hn (cap := c.toNat) (w0 := w) rfl rfl (.inl rfl) (by simp only [execOp, ho, h1, h2, Sem.run_bind, hrun, Result.andThen_ok, Sem.run_pure]; rfl) (by simp) hsz ?_ ?_ ?_ ?_ ?_
            · intro r hr
              rw [(List.mem_replicate.1 hr).2]; exact hzl
            · rw [List.length_replicate]; omega
            · simp only [maxLen]; omega
            · rw [size_madeCells, p6]
            · rw [List.length_replicate, madeCells_take _ _ _ (by rw [p6]; exact Nat.mul_le_mul_right _ (by omega)), p6, ← p4, madeCells_toList _ hzp]
              exact (zero_rep hg p5 hzr (fun _ h => h)).flatten_replicate _
          · cases h
        · cases h
      · cases h
    · cases h
  · cases h

end
end Go.Proofs.YtcaahmielncmpaaGreat

namespace Go.Proofs.YtcaahmielncmpaaGreat
open Go Go.RowKit

section
variable {cx : Cx} {K : Nat → Prop} {β : Nat → Value} {s : AS} {a : Act} {w : World} {nid : Nat}

theorem mut_of_kill {ids : List Nat} {b : Nat} (h : Mut cx β (s.ups (ids.map (·, none))) b) : Mut cx β s b := by
  rcases h with hb | ⟨i', o', hb1, hb2⟩
  · exact .inl hb
  · rw [AS.obj_kill] at hb1
    split at hb1
    · cases hb1
    · exact .inr ⟨i', o', hb1, hb2⟩

theorem killed_not_mut (hg : Good cx β K s a w) {ids : List Nat} (hl : ∀ id ∈ ids, ∃ o, s.obj id = some o) : ∀ id ∈ ids, ∀ b, blkOf (β id) = some b → ¬ Mut cx β (s.ups (ids.map (·, none))) b := by
  intro id' hi' b hb
  obtain ⟨o', ho'⟩ := hl id' hi'
  rintro (hm | ⟨i2, o2, hb1, hb2⟩)
  · have := hg.sb b hm
    have := (hg.blk ho' hb).1
    omega
  · rw [AS.obj_kill] at hb1
    split at hb1
    · cases hb1
    · rename_i hni
      exact hg.inj id' i2 o' o2 ho' hb1 (fun e => hni (e ▸ hi')) b hb hb2

theorem rowsOf_live {av : AV} {rows : List (List C)} {fr : Bool} {ids : List Nat} (h : s.rowsOf av = some (rows, fr, ids)) : ∀ id ∈ ids, ∃ o, s.obj id = some o := by
  unfold AS.rowsOf at h
  split at h
  · simp only [Option.some.injEq, Prod.mk.injEq] at h
    obtain ⟨_, _, rfl⟩ := h
    simp
  · simp only [Option.some.injEq, Prod.mk.injEq] at h
    obtain ⟨_, _, rfl⟩ := h
    simp
  · rename_i id
    split at h
    · rename_i e sz rows' fr' ho
      simp only [Option.some.injEq, Prod.mk.injEq] at h
      obtain ⟨_, _, rfl⟩ := h
      intro i hi
      simp at hi; subst hi
      exact ⟨_, ho⟩
    · cases h
  · cases h

/-- A piece of a slice. -/
theorem rep_piece {ok ok' : Nat → Nat → Prop} {rows : List (List C)} {v : Value} (hr : Rep ok w (.slice rows) v) {sz : Nat} (hlen : ∀ r ∈ rows, r.length = sz) {l h : Nat} (hlh : l ≤ h) (hh : h ≤ rows.length)
    (hok : ∀ b off, ok b off → ok' b (off + l * sz)) (hin : ∀ b off, ok b off → ok' b off ∨ True) (hinner : ∀ (c : C) (u : Value), Rep ok w c u → Rep ok' w c u) :
    ∃ ao len cap, v = .slice ao len cap ∧ len = rows.length ∧ len ≤ cap ∧ Rep ok' w (.slice ((rows.take h).drop l)) (.slice (if cap = l then ao else ao.map (·.add (l * sz))) (h - l) (cap - l)) := by
  simp only [Rep] at hr ⊢
  obtain ⟨ao, cap, hv, hle, hr⟩ := hr
  refine ⟨ao, rows.length, cap, hv, rfl, hle, (if cap = l then ao else ao.map (·.add (l * sz))), cap - l, ?_, ?_, ?_⟩
  · congr 1
    simp
    omega
  · simp
    omega
  · by_cases hlt : l < h
    · right
      rcases hr with hr | ⟨b, off, sz', rfl, hb, hrr⟩
      · subst hr; simp at hh; omega
      · have hsz : sz' = sz := by
          have h0 := hrr.get 0 (rows.getD 0 []) (by rw [List.getD_eq_getElem?_getD, List.getElem?_eq_getElem (show 0 < rows.length by omega)]; rfl)
          rw [← h0.1]
          exact hlen _ (by rw [List.getD_eq_getElem?_getD, List.getElem?_eq_getElem (show 0 < rows.length by omega)]; exact List.getElem_mem _)
        subst hsz
        refine ⟨b, off + l * sz', sz', ?_, hok _ _ hb, RepRows.mk fun j r hj => ?_⟩
        · rw [if_neg (by omega)]
          simp [Addr.add_mid]
        · rw [List.getElem?_drop, List.getElem?_take] at hj
          split at hj
          · have := hrr.get _ _ hj
            refine ⟨this.1, RepRow.mk fun k c hk => ?_⟩
            obtain ⟨u, h1, h2⟩ := this.2.get k c hk
            refine ⟨u, ?_, hinner c u h2⟩
            rw [show off + l * sz' + j * sz' + k = off + (l + j) * sz' + k by rw [Nat.add_mul]; omega]
            exact h1
          · cases hj
    · left
      apply List.eq_nil_of_length_eq_zero
      simp
      omega

theorem run_sliceBound {P : Program} {i : Int} {y : Nat} {code : BoundsCode} (h0 : 0 ≤ i) (h1 : i ≤ y) : (Instr.sliceBound (.int .i64 i) y code).run P w = .ok i.toNat w := by
  simp [Instr.sliceBound, asIntOf, h0, h1]

theorem sound_preSl (hg : Good cx β K s a w) {o : Oper} {T : TypeId} {x oh : Operand} (ho : o.op = .slice T x none (some oh) none) {e : Eff} (h : s.preSl cx.P T x (some oh) = some e) (hs : e.side) : Sound cx K nid s a w o e := by
  unfold AS.preSl at h
  split at h
  · rename_i te xv n _ ht hx hn
    obtain ⟨hv, hw⟩ := ev_sound hg hx
    have hn' := (ev_sound hg hn).1
    simp only [gV, g1, gC, Rep] at hn'
    split at h
    · rename_i E id sz rows hE hp
      split at h
      · rename_i tE htE
        split at h
        · rename_i hsz
          cases h
          obtain ⟨s1, s2⟩ := hs
          obtain ⟨i, d, z, q1, q2, q3, q4, q5, q6, q7, q8, q9, q10, q11, q12, q13⟩ := tabOf_spec ht
          rw [q11] at hE
          have hd : d = .slice E := by
            cases d <;> simp at hE
            rw [hE]
          subst hd
          have key : ∃ e' fr ao m len cap, s.obj id = some (.row e' sz rows fr) ∧ β id = .slice ao m cap ∧ m = rows.length ∧ m ≤ cap ∧ a.eval x = .slice ao len cap ∧ K id ∧ (ao = none ∨ ∃ g, ao = some ⟨g, 0, none⟩) := by
            have own : ∀ {e' : Nat} {fr : Bool}, s.obj id = some (.row e' sz rows fr) → ∃ ao cap, β id = .slice ao rows.length cap ∧ rows.length ≤ cap ∧ (ao = none ∨ ∃ g, ao = some ⟨g, 0, none⟩) := by
              intro e' fr hob
              obtain ⟨_, _, xs, h3, _⟩ := hg.objs id _ hob
              rcases h3.2 with ⟨hn, h0⟩ | ⟨g, cap, cur, hvv, _, _, r1, _⟩
              · exact ⟨none, 0, by rw [hn, h0], by omega, .inl rfl⟩
              · exact ⟨_, cap, hvv, r1, .inr ⟨g, rfl⟩⟩
            unfold AS.preOf at hp
            split at hp
            · split at hp
              · rename_i hob
                cases hp
                obtain ⟨ao, cap, o1, o2, o3⟩ := own hob
                exact ⟨_, _, ao, _, _, cap, hob, o1, rfl, o2, (hv.2 (by rw [hob]; rfl)).trans o1, hw, o3⟩
              · cases hp
            · split at hp
              · rename_i hob
                cases hp
                obtain ⟨ao, cap, o1, o2, o3⟩ := own hob
                obtain ⟨ao', m', cap', p1, p2, p3⟩ := hv.2 (by rw [hob]; rfl)
                rw [o1] at p1
                cases p1
                exact ⟨_, _, ao, _, _, cap, hob, o1, rfl, o2, p3, hw, o3⟩
              · cases hp
            · cases hp
          obtain ⟨e', fr, ao, m, len, cap, hob, hb, rfl, hcap, hxv, hK, hao⟩ := key
          have hmap : (if cap = 0 then ao else ao.map (·.add (0 * tE.size))) = ao := by
            rcases hao with rfl | ⟨g, rfl⟩
            · simp
            · simp [Addr.add_mid]
          refine sound_value hg rfl (v := .slice ao n.toNat cap) ?_ ⟨rfl, fun _ => ⟨ao, rows.length, cap, hb, by omega, rfl⟩⟩ hK
          have hbd : (Instr.sliceBounds true len cap none (some (a.eval oh)) none).run cx.P w = .ok (0, n.toNat, cap) w := by
            have := run_sliceBound (P := cx.P) (w := w) (i := n) (y := cap) (code := .sliceAcap) (by omega) (by omega)
            simp [Instr.sliceBounds, hn', this]
          simp only [execOp, ho, Instr.sliceAt, Instr.slice, Sem.run_bind, run_underlying q2, Result.andThen_ok, hxv, Option.map_none, Option.map_some, hbd, run_sizeOf htE, Sem.run_pure, hmap, Nat.sub_zero]
        · cases h
      · cases h
    · cases h
  · cases h

theorem sound_slice (hg : Good cx β K s a w) {o : Oper} {T : TypeId} {x : Operand} {lo hi : Option Operand} (ho : o.op = .slice T x lo hi none) {e : Eff} (h : effOp cx.P nid (.slice T x lo hi none) s = some e) (hs : e.side) : Sound cx K nid s a w o e := by
  simp only [effOp] at h
  by_cases hpre : s.isPre x lo hi = true
  · rw [if_pos hpre] at h
    have hlh : lo = none ∧ ∃ oh, hi = some oh := by
      unfold AS.isPre at hpre
      split at hpre
      · exact ⟨rfl, _, rfl⟩
      · exact ⟨rfl, _, rfl⟩
      · cases hpre
    obtain ⟨rfl, oh, rfl⟩ := hlh
    exact sound_preSl hg ho h hs
  rw [if_neg hpre] at h
  split at h
  · rename_i te xv ht hx
    obtain ⟨hv, hw⟩ := ev_sound hg hx
    split at h
    · rename_i E rows fr ids hE hrows
      split at h
      · rename_i tE l _ hh _ htE hlo hhi
        cases h
        obtain ⟨s1, s2, s3, s4⟩ := hs
        obtain ⟨i, d, z, q1, q2, q3, q4, q5, q6, q7, q8, q9, q10, q11, q12, q13⟩ := tabOf_spec ht
        rw [q11] at hE
        have hd : d = .slice E := by
          cases d <;> simp at hE
          rw [hE]
        subst hd
        have hl : lo = none ∧ l = 0 ∨ ∃ o, lo = some o ∧ a.eval o = .int .i64 l := by
          cases lo with
          | none => simp at hlo; exact .inl ⟨rfl, hlo.1.symm⟩
          | some o =>
            have := (ev_sound hg hlo).1
            simp only [gV, g1, gC, Rep] at this
            exact .inr ⟨o, rfl, this⟩
        have hh' : hi = none ∧ hh = rows.length ∨ ∃ o, hi = some o ∧ a.eval o = .int .i64 hh := by
          cases hi with
          | none => simp at hhi; exact .inl ⟨rfl, hhi.1.symm⟩
          | some o =>
            have := (ev_sound hg hhi).1
            simp only [gV, g1, gC, Rep] at this
            exact .inr ⟨o, rfl, this⟩
        have hrep := (rowsOf_sound hg hv hrows).2 (M' := Mut cx β (s.ups (ids.map (·, none)))) (fun b hb => mut_of_kill hb) (killed_not_mut hg (rowsOf_live hrows))
        obtain ⟨ao, len, cap, hval, hlen, hcap, hpiece⟩ := rep_piece (ok' := okA cx.F (Mut cx β (s.ups (ids.map (·, none)))) w (fr && decide (l = 0))) hrep s4 (l := l.toNat) (h := hh.toNat) (by omega) (by omega)
          (fun b off hb => ⟨hb.1, hb.2.1, fun hf => by
            simp only [Bool.and_eq_true, decide_eq_true_eq] at hf
            have := hb.2.2 hf.1
            refine ⟨this.1, ?_, this.2.2⟩
            rw [hf.2]; simpa using this.2.1⟩) (fun _ _ _ => .inr trivial) (fun c u hr => hr.weaken (fun _ h => h) (by simp +contextual))
        subst hlen
        have n1 : hh.toNat ≤ cap := by omega
        refine ⟨_, w, .inl ?_, β, (kill_good hg ids).monoK fun _ h => .inl h, hpiece, trivial⟩
        have hb : (Instr.sliceBounds true rows.length cap (lo.map a.eval) (hi.map a.eval) none).run cx.P w = .ok (l.toNat, hh.toNat, cap) w := by
          rcases hl with ⟨rfl, rfl⟩ | ⟨ol, rfl, hol⟩ <;> rcases hh' with ⟨rfl, rfl⟩ | ⟨oh, rfl, hoh⟩
          · simp [Instr.sliceBounds]
          · have := run_sliceBound (P := cx.P) (w := w) (i := hh) (y := cap) (code := .sliceAcap) (by omega) (by omega)
            simp [Instr.sliceBounds, hoh, this]
          · have := run_sliceBound (P := cx.P) (w := w) (i := l) (y := rows.length) (code := .sliceB) (by omega) (by omega)
            simp [Instr.sliceBounds, hol, this]
          · have h1 := run_sliceBound (P := cx.P) (w := w) (i := hh) (y := cap) (code := .sliceAcap) (by omega) (by omega)
            have h2 := run_sliceBound (P := cx.P) (w := w) (i := l) (y := hh.toNat) (code := .sliceB) (by omega) (by omega)
            simp [Instr.sliceBounds, hol, hoh, h1, h2]
        simp only [execOp, ho, Instr.sliceAt, Instr.slice, Sem.run_bind, run_underlying q2, Result.andThen_ok, hval, Option.map_none, hb, run_sizeOf htE, Sem.run_pure]
      · cases h
    · cases h
  · cases h

end
end Go.Proofs.YtcaahmielncmpaaGreat
