/- A part of the proof that a session of datagrams answers as the reference (SessionDatagrams). Its contents: contracts of functions of the program, each stated with its premises. -/
import Derived.OrdersHeld
import Derived.Deep.RegionHeld
import Derived.WalkKit
/- A region that draws its order, walked in one order: what only reads is taken as soon as it may come up, what acts waits for its turn. Generic; no program in sight. -/
namespace Go.Proofs.Sess
open Go Go.RowKit

section
variable {P : Program} {ops : Array Oper} {Q : Exit → Act → World → Prop} {S : World → Prop}

/-- Number j waits for number i, outright. -/
def waits1 (ops : Array Oper) (j i : Nat) : Bool :=
  match ops[j]? with
  | some oj => oj.after.any fun e => Region.binds .any e && e.on == i
  | none => false

/-- A chain of operations each of which waits for the next. -/
def chainW (ops : Array Oper) : List Nat → Bool
  | a :: b :: r => waits1 ops a b && chainW ops (b :: r)
  | _ => true

/-- What is listed is closed under what it waits for. -/
def ClosedL (ops : Array Oper) (listed : Array Bool) : Prop :=
  ∀ j oj, ops[j]? = some oj → listed.getD j false = true → ∀ e ∈ oj.after, Region.binds .any e = true → listed.getD e.on false = true

theorem waits1_spec {j i : Nat} (h : waits1 ops j i = true) : ∃ oj, ops[j]? = some oj ∧ ∃ e ∈ oj.after, Region.binds .any e = true ∧ e.on = i := by
  unfold waits1 at h
  split at h
  · rename_i oj hj
    obtain ⟨e, he, hb⟩ := Array.any_eq_true'.1 h
    simp only [Bool.and_eq_true, beq_iff_eq] at hb
    exact ⟨oj, hj, e, he, hb.1, hb.2⟩
  · cases h

theorem chain_listed {listed : Array Bool} (hc : ClosedL ops listed) : ∀ (l : List Nat) (a i : Nat), chainW ops (a :: l) = true → (a :: l).getLast? = some i → listed.getD a false = true → listed.getD i false = true
  | [], a, i, _, hl, h => by simp at hl; rw [← hl]; exact h
  | b :: r, a, i, hw, hl, h => by
    simp only [chainW, Bool.and_eq_true] at hw
    obtain ⟨oa, ha, e, he, hb, hon⟩ := waits1_spec hw.1
    have h1 := hc a oa ha h e he hb
    rw [hon] at h1
    exact chain_listed hc r b i hw.2 (by simpa using hl) h1

theorem ready_not {listed : Array Bool} (hc : ClosedL ops listed) {j i : Nat} {l : List Nat} (hw : chainW ops (j :: l) = true) (hl : (j :: l).getLast? = some i) (hne : l ≠ []) (hr : j ∈ Region.ready .any ops listed) : listed.getD i false = true := by
  obtain ⟨_, oj, hoj, hall⟩ := mem_ready.1 hr
  match l, hne with
  | b :: r, _ =>
    simp only [chainW, Bool.and_eq_true] at hw
    obtain ⟨oa, ha, e, he, hb, hon⟩ := waits1_spec hw.1
    have : oa = oj := Option.some.inj (ha.symm.trans hoj)
    subst this
    have h1 := hall e he hb
    rw [hon] at h1
    exact chain_listed hc r b i hw.2 (by simpa using hl) h1

theorem closed_set {listed : Array Bool} (hc : ClosedL ops listed) {i : Nat} (hi : i ∈ Region.ready .any ops listed) : ClosedL ops (listed.setIfInBounds i true) := by
  obtain ⟨_, oi, hoi, hall⟩ := mem_ready.1 hi
  intro j oj hj hl e he hb
  by_cases hij : i = j
  · subst hij
    have : oj = oi := Option.some.inj (hj.symm.trans hoi)
    subst this
    exact getD_set_true (hall e he hb)
  · rw [getD_set_ne false hij] at hl
    exact getD_set_true (hc j oj hj hl e he hb)

/-- Whatever order is picked from here on; behind an operation that may come ahead of a reading one S is shown. -/
def wpAnyN (P : Program) (ops : Array Oper) (Q : Exit → Act → World → Prop) (S : World → Prop) (need : Nat → Bool) : Nat → Array Bool → Act → World → Prop
  | 0, listed, a, w => Region.ready .any ops listed = [] ∧ Q .normal a w
  | fuel + 1, listed, a, w =>
    (Region.ready .any ops listed = [] → Q .normal a w) ∧
    ∀ i ∈ Region.ready .any ops listed, wpOp P ops Q i (fun a' w' => (need i = true → S w → S w') ∧ wpAnyN P ops Q S need fuel (listed.setIfInBounds i true) a' w') a w

theorem wpAny_of_N {need : Nat → Bool} : ∀ (fuel : Nat) (listed : Array Bool) (a : Act) (w : World), wpAnyN P ops Q S need fuel listed a w → wpAny P .any ops Q fuel listed a w
  | 0, _, _, _, h => h
  | fuel + 1, _, _, _, h => ⟨h.1, fun i hi => wpOp_mono (fun a' w' h' => wpAny_of_N fuel _ a' w' h'.2) (h.2 i hi)⟩

/-- A reading operation may be taken first. (T: what holds of the world as long as it has not come up.) -/
theorem wpAnyN_first {need : Nat → Bool} {T : World → Prop} {i : Nat} {oi : Oper} {v : Value} (hi : ops[i]? = some oi) (hsel : ∀ (j : Nat) (o : Oper) cs b, ops[j]? = some o → o.op ≠ .select cs b)
    (hQ : ∀ c a w, Q (.panic c) (a.put oi.dst v) w → Q (.panic c) a w)
    (hneed : (∀ w, T w) ∨ T = S ∧ ∀ j, need j = false → ∃ l, l ≠ [] ∧ chainW ops (j :: l) = true ∧ (j :: l).getLast? = some i) :
    ∀ (fuel : Nat) (listed : Array Bool) (a : Act) (w : World), ClosedL ops listed →
      (∀ j oj, ops[j]? = some oj → j ≠ i → listed.getD j true = false → (∀ e ∈ oj.after, Region.binds .any e = true → e.on ≠ i) → oi.apart ops oj = true) →
      i ∈ Region.ready .any ops listed → YieldsIf P ops T oi v a → T w →
      wpAnyN P ops Q S need fuel (listed.setIfInBounds i true) (a.put oi.dst v) w → wpAnyN P ops Q S need (fuel + 1) listed a w := by
  intro fuel
  induction fuel with
  | zero =>
    intro listed a w _ _ hr hy hT H
    refine ⟨fun h => (by rw [h] at hr; cases hr), fun j hj => ?_⟩
    by_cases hji : j = i
    · subst hji; exact hy.wpOp hi hT ⟨fun _ h => h, H⟩
    · have := ready_mono hj hji
      rw [H.1] at this
      cases this
  | succ fuel ih =>
    intro listed a w hcl hfree hr hy hT H
    refine ⟨fun h => (by rw [h] at hr; cases hr), fun j hj => ?_⟩
    by_cases hji : j = i
    · subst hji; exact hy.wpOp hi hT ⟨fun _ h => h, H⟩
    · have h1 := H.2 j (ready_mono hj hji)
      obtain ⟨hjun, oj, hoj, hall⟩ := mem_ready.1 hj
      have hnot : ∀ e ∈ oj.after, Region.binds .any e = true → e.on ≠ i := fun e he hb heq => by
        have h1 := hall e he hb
        have h0 := (mem_ready.1 hr).1
        rw [heq] at h1
        rcases Nat.lt_or_ge i listed.size with h' | h'
        · simp [h'] at h0 h1; rw [h0] at h1; cases h1
        · simp [Array.getElem?_eq_none h'] at h1
      have hnj : (∀ w, T w) ∨ T = S ∧ need j = true := by
        rcases hneed with h | ⟨hTS, h⟩
        · exact .inl h
        · cases hn : need j with
          | true => exact .inr ⟨hTS, rfl⟩
          | false =>
            exfalso
            obtain ⟨l, hl0, hl1, hl2⟩ := h j hn
            have h3 := ready_not hcl hl1 hl2 hl0 hj
            have h0 := (mem_ready.1 hr).1
            rcases Nat.lt_or_ge i listed.size with h' | h'
            · simp [h'] at h0 h3; rw [h0] at h3; cases h3
            · simp [Array.getElem?_eq_none h'] at h3
      have h2 := wpOp_putIf hoj (hfree j oj hoj hji hjun hnot) (fun cs b => hsel i oi cs b hi) (fun cs b => hsel j oj cs b hoj) hQ hy h1
      have hfree' : ∀ k ok, ops[k]? = some ok → k ≠ i → (listed.setIfInBounds j true).getD k true = false →
          (∀ e ∈ ok.after, Region.binds .any e = true → e.on ≠ i) → oi.apart ops ok = true := fun k ok hk hki hun hno => by
        refine hfree k ok hk hki ?_ hno
        by_cases hjk : j = k
        · subst hjk; exact hjun
        · rw [getD_set_ne true hjk] at hun; exact hun
      refine wpOp_mono (fun a' w' h3 => ⟨h3.2.1, ih (listed.setIfInBounds j true) a' w' (closed_set hcl hj) hfree' (ready_mono hr (Ne.symm hji)) h3.1 ?_ ?_⟩) h2
      · rcases hnj with h | ⟨h, hn⟩
        · exact h w'
        · subst h; exact h3.2.1 hn hT
      · rw [Array.setIfInBounds_comm _ _ hji]
        exact h3.2.2

/-- A step of the walk: an operation's number, and its kind: 0: it yields in whatever world; 1: it yields where S holds; 2: it acts, and S is shown behind it; 3: it acts. -/
def stepKind (order : List (Nat × Nat)) (k : Nat) : List Nat := (order.filter fun p => p.2 == k).map (·.1)

/-- The chains that are owed: from each operation of kind 3 to each of kind 1. -/
def chainsOk (ops : Array Oper) (order : List (Nat × Nat)) (chains : List (List Nat)) : Bool :=
  (stepKind order 3).all fun j => (stepKind order 1).all fun i => chains.any fun l => l.head? == some j && l.getLast? == some i && chainW ops l && decide (2 ≤ l.length)

def orderOk (ops : Array Oper) : List (Nat × Nat) → Array Bool → Bool
  | [], listed => (Region.ready .any ops listed).isEmpty
  | (i, k) :: r, listed =>
    decide (k ≤ 3) && (if k ≤ 1 then (Region.ready .any ops listed).contains i && Region.free .any ops listed i else Region.ready .any ops listed == [i]) && orderOk ops r (listed.setIfInBounds i true)

/-- The walk itself. -/
def wpSeq (P : Program) (ops : Array Oper) (Q : Exit → Act → World → Prop) (S : World → Prop) : List (Nat × Nat) → Act → World → Prop
  | [], a, w => Q .normal a w
  | (i, 0) :: r, a, w => ∃ o v, ops[i]? = some o ∧ YieldsIf P ops (fun _ => True) o v a ∧ wpSeq P ops Q S r (a.put o.dst v) w
  | (i, 1) :: r, a, w => S w ∧ ∃ o v, ops[i]? = some o ∧ YieldsIf P ops S o v a ∧ wpSeq P ops Q S r (a.put o.dst v) w
  | (i, 2) :: r, a, w => wpOp P ops Q i (fun a' w' => (S w → S w') ∧ wpSeq P ops Q S r a' w') a w
  | (i, _) :: r, a, w => wpOp P ops Q i (fun a' w' => wpSeq P ops Q S r a' w') a w

theorem wpAnyN_of_seq {full : List (Nat × Nat)} {chains : List (List Nat)} (hsel : Region.noSelect ops = true) (hch : chainsOk ops full chains = true)
    (hQ : ∀ (d : Option Tmp) (v : Value) c a w, Q (.panic c) (a.put d v) w → Q (.panic c) a w) :
    ∀ (order : List (Nat × Nat)) (listed : Array Bool) (a : Act) (w : World), (∀ p ∈ order, p ∈ full) → ClosedL ops listed → orderOk ops order listed = true →
      wpSeq P ops Q S order a w → wpAnyN P ops Q S (fun j => !(stepKind full 3).contains j) order.length listed a w
  | [], listed, a, w, _, _, hok, h => ⟨by simpa [orderOk] using hok, h⟩
  | (i, k) :: r, listed, a, w, hsub, hcl, hok, h => by
    simp only [orderOk, Bool.and_eq_true] at hok
    obtain ⟨⟨hk3, hok1⟩, hok2⟩ := hok
    have hsub' : ∀ p ∈ r, p ∈ full := fun p hp => hsub p (by simp [hp])
    have hmem : (i, k) ∈ full := hsub _ (by simp)
    have hok1 := And.intro hk3 hok1
    match k, h, hok1, hmem with
    | 0, h, hok1, _ =>
      replace hok1 := hok1.2
      simp at hok1
      obtain ⟨o, v, ho, hy, hr⟩ := h
      have hcl' := closed_set hcl hok1.1
      exact wpAnyN_first (T := fun _ => True) ho (Region.noSelect_spec hsel) (hQ _ _) (.inl fun _ => trivial) _ listed a w hcl (Region.free_spec ho hok1.2) hok1.1 hy trivial
        (wpAnyN_of_seq hsel hch hQ r _ _ w hsub' hcl' hok2 hr)
    | 1, h, hok1, hmem =>
      replace hok1 := hok1.2
      simp at hok1
      obtain ⟨hS, o, v, ho, hy, hr⟩ := h
      have hcl' := closed_set hcl hok1.1
      refine wpAnyN_first (T := S) ho (Region.noSelect_spec hsel) (hQ _ _) (.inr ⟨rfl, fun j hj => ?_⟩) _ listed a w hcl (Region.free_spec ho hok1.2) hok1.1 hy hS
        (wpAnyN_of_seq hsel hch hQ r _ _ w hsub' hcl' hok2 hr)
      have hj3 : j ∈ stepKind full 3 := by simpa using hj
      have hi1 : i ∈ stepKind full 1 := by
        simp only [stepKind, List.mem_map, List.mem_filter]
        exact ⟨(i, 1), ⟨hmem, rfl⟩, rfl⟩
      have h1 := List.all_eq_true.1 (List.all_eq_true.1 hch j hj3) i hi1
      obtain ⟨l, _, hl⟩ := List.any_eq_true.1 h1
      simp only [Bool.and_eq_true, beq_iff_eq, decide_eq_true_eq] at hl
      obtain ⟨⟨⟨hl1, hl2⟩, hl3⟩, hl4⟩ := hl
      match l, hl1, hl4 with
      | b :: t, hl1, hl4 =>
        simp at hl1; subst hl1
        exact ⟨t, by intro e; rw [e] at hl4; simp at hl4, hl3, hl2⟩
    | 2, h, hok1, _ =>
      simp at hok1
      refine ⟨(fun h0 => by rw [hok1] at h0; cases h0), fun j hj => ?_⟩
      have hji : j = i := by rw [hok1] at hj; simpa using hj
      subst hji
      exact wpOp_mono (fun a' w' h' => ⟨fun _ hS => h'.1 hS, wpAnyN_of_seq hsel hch hQ r _ _ w' hsub' (closed_set hcl hj) hok2 h'.2⟩) h
    | k + 4, _, hok1, _ =>
      exact absurd hok1.1 (by simp)
    | 3, h, hok1, hmem =>
      simp at hok1
      refine ⟨(fun h0 => by rw [hok1] at h0; cases h0), fun j hj => ?_⟩
      have hji : j = i := by rw [hok1] at hj; simpa using hj
      subst hji
      have hj3 : j ∈ stepKind full 3 := by
        simp only [stepKind, List.mem_map, List.mem_filter]
        exact ⟨(j, 3), ⟨hmem, rfl⟩, rfl⟩
      exact wpOp_mono (fun a' w' h' => ⟨fun hn => by simp [hj3] at hn, wpAnyN_of_seq hsel hch hQ r _ _ w' hsub' (closed_set hcl hj) hok2 h'⟩) h

/-- All that the kernel checks of a region and an order. -/
def seqOk (ops : Array Oper) (order : List (Nat × Nat)) (chains : List (List Nat)) : Bool :=
  Region.noSelect ops && chainsOk ops order chains && orderOk ops order (Array.replicate ops.size false) && order.length == ops.size

/-- The operations in the order of the walk, each with its kind. -/
def picks (l : List Oper) : List (Nat × Nat) → List (Nat × Oper)
  | [] => []
  | (i, k) :: r => (k, l.getD i default) :: picks l r

/-- The walk, over the operations themselves. -/
def wpSeqL (P : Program) (ops : Array Oper) (Q : Exit → Act → World → Prop) (S : World → Prop) : List (Nat × Oper) → Act → World → Prop
  | [], a, w => Q .normal a w
  | (0, o) :: r, a, w => ∃ v, YieldsIf P ops (fun _ => True) o v a ∧ wpSeqL P ops Q S r (a.put o.dst v) w
  | (1, o) :: r, a, w => S w ∧ ∃ v, YieldsIf P ops S o v a ∧ wpSeqL P ops Q S r (a.put o.dst v) w
  | (2, o) :: r, a, w => ∀ K : Act → World → Prop, (∀ a' w', S w' → wpSeqL P ops Q S r a' w' → K a' w') → if Region.wanted o (yielded ops a.tmps) = true then Oper.wp P o a w K Q else K (a.put o.dst undef) w
  | (_, o) :: r, a, w => ∀ K : Act → World → Prop, (∀ a' w', wpSeqL P ops Q S r a' w' → K a' w') → if Region.wanted o (yielded ops a.tmps) = true then Oper.wp P o a w K Q else K (a.put o.dst undef) w

theorem wpSeq_of_L : ∀ (order : List (Nat × Nat)) (listed : Array Bool) (a : Act) (w : World), orderOk ops order listed = true → wpSeqL P ops Q S (picks ops.toList order) a w → wpSeq P ops Q S order a w
  | [], _, _, _, _, h => h
  | (i, k) :: r, listed, a, w, hok, h => by
    simp only [orderOk, Bool.and_eq_true] at hok
    obtain ⟨⟨hk3, hok1⟩, hok2⟩ := hok
    have hr : i ∈ Region.ready .any ops listed := by
      split at hok1
      · simp at hok1; exact hok1.1
      · simp at hok1; rw [hok1]; simp
    obtain ⟨_, o, ho, _⟩ := mem_ready.1 hr
    have hd : ops.toList.getD i default = o := by simp [ho]
    simp only [picks, hd] at h
    match k, h, hk3 with
    | 0, h, _ => obtain ⟨v, hy, hh⟩ := h; exact ⟨o, v, ho, hy, wpSeq_of_L r _ _ _ hok2 hh⟩
    | 1, h, _ => obtain ⟨hS, v, hy, hh⟩ := h; exact ⟨hS, o, v, ho, hy, wpSeq_of_L r _ _ _ hok2 hh⟩
    | 2, h, _ => exact wpOp_step ho fun K hK => h K fun a' w' hS h' => hK a' w' ⟨fun _ => hS, wpSeq_of_L r _ _ _ hok2 h'⟩
    | 3, h, _ => exact wpOp_step ho fun K hK => h K fun a' w' h' => hK a' w' (wpSeq_of_L r _ _ _ hok2 h')
    | k + 4, _, hk => exact absurd hk (by simp)

/-- THE LAW. -/
theorem wp_region_seq (S : World → Prop) (order : List (Nat × Nat)) (chains : List (List Nat)) {id : Nat} {l : List Oper} {a : Act} {w : World} (hm : P.follows .mixedOrders = true) (hok : seqOk l.toArray order chains = true)
    (hQ : ∀ (d : Option Tmp) (v : Value) c a w, Q (.panic c) (a.put d v) w → Q (.panic c) a w) (h : wpSeqL P l.toArray Q S (picks l order) a w.drew) : (Code.region id l.toArray true).wp P Q a w := by
  have hok' := hok
  simp only [seqOk, Bool.and_eq_true, beq_iff_eq] at hok
  obtain ⟨⟨⟨h1, h2⟩, h3⟩, h4⟩ := hok
  have h := wpSeq_of_L order _ a _ h3 (by simpa using h)
  refine wp_region_any hm ?_
  rw [← h4] at h3 ⊢
  refine wpAny_of_N _ _ _ _ (wpAnyN_of_seq h1 h2 hQ order _ a _ (fun _ h => h) (fun j oj _ hl => ?_) h3 h)
  exfalso
  rcases Nat.lt_or_ge j order.length with h' | h' <;> simp [h'] at hl

variable {r : List (Nat × Oper)} {a : Act} {w : World} {o : Oper} {v : Value}
/-- A step that yields in whatever world. -/
theorem seq_pure (hw : Region.wanted o (yielded ops a.tmps) = true) (hv : ∀ w, (execOp a.eval o).run P w = .ok (.value v) w)
    (h : wpSeqL P ops Q S r (a.put o.dst v) w) : wpSeqL P ops Q S ((0, o) :: r) a w := ⟨v, .inl ⟨hw, fun w _ => hv w⟩, h⟩
/-- A step that its guard skips. -/
theorem seq_skip (hw : Region.wanted o (yielded ops a.tmps) = false)
    (h : wpSeqL P ops Q S r (a.put o.dst undef) w) : wpSeqL P ops Q S ((0, o) :: r) a w := ⟨undef, .inr ⟨hw, rfl⟩, h⟩
/-- A step that reads. -/
theorem seq_read (hS : S w) (hw : Region.wanted o (yielded ops a.tmps) = true) (hv : ∀ w, S w → (execOp a.eval o).run P w = .ok (.value v) w)
    (h : wpSeqL P ops Q S r (a.put o.dst v) w) : wpSeqL P ops Q S ((1, o) :: r) a w := ⟨hS, v, .inl ⟨hw, hv⟩, h⟩
theorem seq_read_skip (hS : S w) (hw : Region.wanted o (yielded ops a.tmps) = false)
    (h : wpSeqL P ops Q S r (a.put o.dst undef) w) : wpSeqL P ops Q S ((1, o) :: r) a w := ⟨hS, undef, .inr ⟨hw, rfl⟩, h⟩
/-- A step that acts; S is shown behind it. -/
theorem seq_act (h : ∀ K : Act → World → Prop, Hid (∀ a' w', S w' → wpSeqL P ops Q S r a' w' → K a' w') → if Region.wanted o (yielded ops a.tmps) = true then Oper.wp P o a w K Q else K (a.put o.dst undef) w) : wpSeqL P ops Q S ((2, o) :: r) a w := h
/-- A step that acts. -/
theorem seq_do (h : ∀ K : Act → World → Prop, Hid (∀ a' w', wpSeqL P ops Q S r a' w' → K a' w') → if Region.wanted o (yielded ops a.tmps) = true then Oper.wp P o a w K Q else K (a.put o.dst undef) w) : wpSeqL P ops Q S ((3, o) :: r) a w := h
theorem seq_nil (h : Q .normal a w) : wpSeqL P ops Q S [] a w := h

end
end Go.Proofs.Sess
/- A region that draws its order, in which two operations act side by side: both orders are walked. Generic; no program in sight. -/
namespace Go.Proofs.Sess
open Go Go.RowKit

section
variable {P : Program} {ops : Array Oper} {Q : Exit → Act → World → Prop} {S : World → Prop}

/-- Closed under what it waits for, as the kernel checks it. -/
def closedB (ops : Array Oper) (listed : Array Bool) : Bool :=
  (List.range ops.size).all fun j => !listed.getD j false || match ops[j]? with
    | some oj => oj.after.all fun e => !Region.binds .any e || listed.getD e.on false
    | none => true
theorem closedB_spec {listed : Array Bool} (h : closedB ops listed = true) : ClosedL ops listed := by
  intro j oj hj hl e he hb
  have hlt : j < ops.size := (Array.getElem?_eq_some_iff.1 hj).1
  have := List.all_eq_true.1 h j (List.mem_range.2 hlt)
  rw [hl, hj] at this
  simp only [Bool.not_true, Bool.false_or] at this
  have h2 := Array.all_eq_true'.1 this e he
  rw [hb] at h2
  simpa using h2

theorem wpAnyN_of_any : ∀ (fuel : Nat) (listed : Array Bool) (a : Act) (w : World), wpAny P .any ops Q fuel listed a w → wpAnyN P ops Q S (fun _ => false) fuel listed a w
  | 0, _, _, _, h => h
  | fuel + 1, _, _, _, h => ⟨h.1, fun i hi => wpOp_mono (fun _ _ h' => ⟨(fun hn => by cases hn), wpAnyN_of_any fuel _ _ _ h'⟩) (h.2 i hi)⟩

/-- The places that are taken first: they yield in whatever world. -/
def preOk (ops : Array Oper) : List Nat → Array Bool → Bool
  | [], _ => true
  | i :: r, listed => (Region.ready .any ops listed).contains i && Region.free .any ops listed i && preOk ops r (listed.setIfInBounds i true)
def preSet : List Nat → Array Bool → Array Bool
  | [], listed => listed
  | i :: r, listed => preSet r (listed.setIfInBounds i true)

def wpPreL (P : Program) (ops : Array Oper) (Z : Act → World → Prop) : List Oper → Act → World → Prop
  | [], a, w => Z a w
  | o :: r, a, w => ∃ v, YieldsIf P ops (fun _ => True) o v a ∧ wpPreL P ops Z r (a.put o.dst v) w

theorem any_pre (hsel : Region.noSelect ops = true) (hQ : ∀ (d : Option Tmp) (v : Value) c a w, Q (.panic c) (a.put d v) w → Q (.panic c) a w) (fuel : Nat) :
    ∀ (pre : List Nat) (listed : Array Bool) (a : Act) (w : World), ClosedL ops listed → preOk ops pre listed = true →
      wpPreL P ops (fun a w => wpAny P .any ops Q fuel (preSet pre listed) a w) (pre.map fun i => ops.toList.getD i default) a w → wpAny P .any ops Q (pre.length + fuel) listed a w
  | [], listed, a, w, _, _, h => by simpa [wpPreL, preSet] using h
  | i :: r, listed, a, w, hcl, hok, h => by
    simp only [preOk, Bool.and_eq_true] at hok
    obtain ⟨⟨h1, h2⟩, h3⟩ := hok
    have hr : i ∈ Region.ready .any ops listed := by simpa using h1
    obtain ⟨_, o, ho, _⟩ := mem_ready.1 hr
    have hd : ops.toList.getD i default = o := by simp [ho]
    simp only [List.map_cons, hd, wpPreL] at h
    obtain ⟨v, hy, hh⟩ := h
    have hih := any_pre hsel hQ fuel r _ _ w (closed_set hcl hr) h3 hh
    have := wpAnyN_first (S := fun _ => True) (T := fun _ => True) ho (Region.noSelect_spec hsel) (hQ _ _) (.inl fun _ => trivial) _ listed a w hcl (Region.free_spec ho h2) hr hy trivial (wpAnyN_of_any _ _ _ _ hih)
    rw [List.length_cons, Nat.add_right_comm]
    exact wpAny_of_N _ _ _ _ this

/-- Two act side by side. -/
theorem any_fork {i j : Nat} {oi oj : Oper} {listed : Array Bool} {fuel : Nat} {a : Act} {w : World} (hr : Region.ready .any ops listed = [i, j]) (hi : ops[i]? = some oi) (hj : ops[j]? = some oj)
    (h1 : ∀ K : Act → World → Prop, Hid (∀ a' w', wpAny P .any ops Q fuel (listed.setIfInBounds i true) a' w' → K a' w') → if Region.wanted oi (yielded ops a.tmps) = true then Oper.wp P oi a w K Q else K (a.put oi.dst undef) w)
    (h2 : ∀ K : Act → World → Prop, Hid (∀ a' w', wpAny P .any ops Q fuel (listed.setIfInBounds j true) a' w' → K a' w') → if Region.wanted oj (yielded ops a.tmps) = true then Oper.wp P oj a w K Q else K (a.put oj.dst undef) w) :
    wpAny P .any ops Q (fuel + 1) listed a w := by
  refine ⟨(fun h => by rw [hr] at h; cases h), fun k hk => ?_⟩
  rw [hr] at hk
  simp at hk
  rcases hk with rfl | rfl
  · exact wpOp_step hi fun K hK => h1 K hK
  · exact wpOp_step hj fun K hK => h2 K hK

/-- The rest, in one order. -/
theorem any_seq (S : World → Prop) (order : List (Nat × Nat)) (chains : List (List Nat)) {listed : Array Bool} {fuel : Nat} {a : Act} {w : World} (hf : order.length = fuel)
    (hok : (Region.noSelect ops && chainsOk ops order chains && orderOk ops order listed && closedB ops listed) = true)
    (hQ : ∀ (d : Option Tmp) (v : Value) c a w, Q (.panic c) (a.put d v) w → Q (.panic c) a w) (h : wpSeqL P ops Q S (picks ops.toList order) a w) : wpAny P .any ops Q fuel listed a w := by
  simp only [Bool.and_eq_true] at hok
  obtain ⟨⟨⟨h1, h2⟩, h3⟩, h4⟩ := hok
  subst hf
  exact wpAny_of_N _ _ _ _ (wpAnyN_of_seq h1 h2 hQ order _ a _ (fun _ h => h) (closedB_spec h4) h3 (wpSeq_of_L order _ a _ h3 h))

/-- THE LAW. -/
theorem wp_region_pre (pre : List Nat) {id : Nat} {l : List Oper} {a : Act} {w : World} (hm : P.follows .mixedOrders = true)
    (hok : (Region.noSelect l.toArray && preOk l.toArray pre (Array.replicate l.toArray.size false) && closedB l.toArray (Array.replicate l.toArray.size false) && decide (pre.length ≤ l.toArray.size)) = true)
    (hQ : ∀ (d : Option Tmp) (v : Value) c a w, Q (.panic c) (a.put d v) w → Q (.panic c) a w)
    (h : wpPreL P l.toArray (fun a w => wpAny P .any l.toArray Q (l.toArray.size - pre.length) (preSet pre (Array.replicate l.toArray.size false)) a w) (pre.map fun i => l.getD i default) a w.drew) : (Code.region id l.toArray true).wp P Q a w := by
  simp only [Bool.and_eq_true, decide_eq_true_eq] at hok
  obtain ⟨⟨⟨h1, h2⟩, h3⟩, h4⟩ := hok
  refine wp_region_any hm ?_
  have := any_pre (P := P) (Q := Q) h1 hQ (l.toArray.size - pre.length) pre _ a w.drew (closedB_spec h3) h2 (by simpa using h)
  rw [Nat.add_sub_cancel' h4] at this
  exact this

variable {r : List Oper} {a : Act} {w : World} {o : Oper} {v : Value} {Z : Act → World → Prop}
theorem pre_pure (hw : Region.wanted o (yielded ops a.tmps) = true) (hv : ∀ w, (execOp a.eval o).run P w = .ok (.value v) w)
    (h : wpPreL P ops Z r (a.put o.dst v) w) : wpPreL P ops Z (o :: r) a w := ⟨v, .inl ⟨hw, fun w _ => hv w⟩, h⟩
theorem pre_nil (h : Z a w) : wpPreL P ops Z [] a w := h
end
end Go.Proofs.Sess
