/- A part of the proof that a session of datagrams answers as the reference (SessionDatagrams). Its contents: contracts of functions of the program, each stated with its premises. -/
import Derived.Test.YtkaafdoplemjhaaGreatDoorProg
import Derived.Test.YtkaafdoplemjhaaGreatDoorSessQA0
import Derived.WalkKit
import Derived.WalkSpells
import Derived.WalkLawsBesides
import Derived.MapKept
import Derived.Deep.RegionHeld3
import Derived.Deep.AppendLies
import Derived.KernelRfl
namespace Go.Proofs.Sess
open Go Go.RowKit

/-- [2]int compared. -/
theorem eq111 (a b c d : Int) (w : World) : (Op.equal 111 (.agg #[.int .i64 a, .int .i64 b]) (.agg #[.int .i64 c, .int .i64 d])).run Tryz.prog w = .ok (a == c && b == d) w := by
  unfold Op.equal Op.maxDepth Op.equalIn
  simp [go_sem, part, List.range', List.forIn_cons, Sem.run_bind, run_equalIn_int _ _ _ .i64 _ _ _ Tryz.underlying3]
  by_cases h1 : a = c <;> by_cases h2 : b = d <;> simp [h1, h2, go_sem]
theorem check111 (em : Bool) (a b : Int) (w : World) : (Instr.checkKey em 10000 111 (.agg #[.int .i64 a, .int .i64 b])).run Tryz.prog w = .ok () w := by
  kernel_rfl

def K2 (a b : Int) : Value := .agg #[.int .i64 a, .int .i64 b]

/-- An entry of the session's index: a kind, a direction, the number, the stamp. -/
structure IE where
  a : Int
  b : Int
  v : Int
  n : Nat

def IE.ent (x : IE) : MapEntry := ⟨K2 x.a x.b, .int .i64 x.v, x.n⟩
def IE.has (a b : Int) (x : IE) : Bool := x.a == a && x.b == b

theorem K2_inj {a b c d : Int} : K2 a b = K2 c d ↔ a = c ∧ b = d := by simp [K2]

def findE (a b : Int) : List IE → Nat → Option (Nat × Value)
  | [], _ => none
  | e :: es, i => if e.has a b then some (i, .int .i64 e.v) else findE a b es (i + 1)

theorem find_ask (a b : Int) (w : World) : ∀ (es : List IE) (i : Nat),
    (Instr.findAsking 111 (K2 a b) (es.map IE.ent) i).run Tryz.prog w = .ok (findE a b es i) w
  | [], i => rfl
  | e :: es, i => by
    have ih := find_ask a b w es (i + 1)
    have he := eq111 a b e.a e.b w
    rw [List.map_cons]
    unfold Instr.findAsking findE
    rw [Sem.run_bind]
    show Result.andThen ((Op.equal 111 (.agg #[.int .i64 a, .int .i64 b]) (.agg #[.int .i64 e.a, .int .i64 e.b])).run Tryz.prog w) _ = _
    rw [he]
    by_cases h1 : e.has a b = true
    · have h2 : (a == e.a && b == e.b) = true := by simp [IE.has] at h1; simp [h1.1, h1.2]
      rw [h2, if_pos h1]; simp [go_sem, IE.ent]
    · have h2 : (a == e.a && b == e.b) = false := by
        cases hb : (a == e.a && b == e.b)
        · rfl
        · simp at hb; exact absurd (by simp [IE.has, hb.1, hb.2]) h1
      rw [h2, if_neg h1]
      simp only [Result.andThen_ok]
      exact ih

theorem find_key (a b : Int) (w : World) (es : List IE) :
    (Instr.findKey 111 (K2 a b) (es.map IE.ent)).run Tryz.prog w = .ok (findE a b es 0) w := by
  unfold Instr.findKey
  rw [Sem.run_bind, Tryz.runUnderlying111]
  simp only [Result.andThen_ok]
  cases es with
  | nil => rfl
  | cons e es =>
    have : Instr.findNow (TypeDesc.array 2 3) (K2 a b) ((e :: es).map IE.ent) 0 = none := by
      simp [Instr.findNow, Instr.sameNow]
    rw [this]
    exact find_ask a b w (e :: es) 0

/-- The number at a key. -/
def cntE (a b : Int) : List IE → Int
  | [] => 0
  | e :: es => if e.has a b then e.v else cntE a b es

theorem findE_none {a b : Int} : ∀ {es : List IE} {i : Nat}, findE a b es i = none → cntE a b es = 0 ∧ ∀ e ∈ es, e.has a b = false
  | [], _, _ => ⟨rfl, by simp⟩
  | e :: es, i, h => by
    unfold findE at h
    split at h
    · cases h
    · rename_i hne
      obtain ⟨h1, h2⟩ := findE_none h
      refine ⟨by unfold cntE; rw [if_neg hne]; exact h1, fun x hx => ?_⟩
      rcases List.mem_cons.1 hx with rfl | hx
      · simpa using hne
      · exact h2 x hx

theorem findE_some {a b : Int} {v : Value} : ∀ {es : List IE} {i j : Nat}, findE a b es i = some (j, v) → ∃ k e, j = i + k ∧ es[k]? = some e ∧ e.has a b = true ∧ v = .int .i64 e.v ∧ cntE a b es = e.v ∧ ∀ m x, m < k → es[m]? = some x → x.has a b = false
  | [], _, _, h => by simp [findE] at h
  | e :: es, i, j, h => by
    unfold findE at h
    split at h
    · rename_i he
      simp at h
      exact ⟨0, e, by omega, rfl, he, h.2.symm, by unfold cntE; rw [if_pos he], fun m x hm => by omega⟩
    · rename_i hne
      obtain ⟨k, e', h1, h2, h3, h4, h5, h6⟩ := findE_some h
      refine ⟨k + 1, e', by omega, by simpa using h2, h3, h4, by unfold cntE; rw [if_neg hne]; exact h5, fun m x hm hx => ?_⟩
      match m, hx with
      | 0, hx => simp at hx; subst hx; simpa using hne
      | m + 1, hx => exact h6 m x (by omega) (by simpa using hx)

/-- The index in memory: block mb is a map that holds f. -/
structure IdxAt (w : World) (mb : Nat) (L : List IE) (clock : Nat) : Prop where
  heap : w.heap[mb]? = some (.map (L.map IE.ent).toArray clock)
  born : ∀ e ∈ L, e.n < clock
  apart : L.Pairwise (fun x y => x.n ≠ y.n)

theorem run_getObj_idx {w : World} {mb : Nat} {L : List IE} {clock : Nat} (h : IdxAt w mb L clock) : (getObj mb).run Tryz.prog w = .ok (.map (L.map IE.ent).toArray clock) w := by
  exact MapKept.run_getObj_map h.heap

theorem run_lookup_idx {w : World} {mb : Nat} {L : List IE} {clock : Nat} (h : IdxAt w mb L clock) (a b : Int) :
    (Instr.lookup 50 (.map (some mb)) (K2 a b) false).run Tryz.prog w = .ok (.int .i64 (cntE a b L)) w := by
  have hf := find_key a b w L
  have hg := run_getObj_idx h
  have hc := check111 (L.map IE.ent).toArray.isEmpty a b w
  unfold Instr.lookup
  simp only [Sem.run_bind, Tryz.runUnderlying50, Result.andThen_ok, hg, Sem.run_pure]
  rw [show (Value.agg #[.int .i64 a, .int .i64 b]) = K2 a b from rfl] at hc
  rw [hc]
  simp only [Result.andThen_ok, hf]
  cases hfe : findE a b L 0 with
  | none =>
    obtain ⟨h1, _⟩ := findE_none hfe
    simp [h1, Tryz.zeroValue3, go_sem]
  | some p =>
    obtain ⟨j, v⟩ := p
    obtain ⟨k, e, _, _, _, hv, hc', _⟩ := findE_some hfe
    simp [hv, hc', go_sem]

/-- The list behind one more at a key: the old entry raised, or a new one. -/
def bumpAt (j : Nat) (v : Int) (L : List IE) : List IE := L.modify j fun e => { e with v := v }

theorem cntE_bump {a b : Int} {v : Int} : ∀ {L : List IE} {j : Nat} {e : IE}, L[j]? = some e → e.has a b = true → (∀ m x, m < j → L[m]? = some x → x.has a b = false) →
    cntE a b (bumpAt j v L) = v ∧ ∀ c d, ¬ (c = a ∧ d = b) → cntE c d (bumpAt j v L) = cntE c d L
  | [], j, e, h, _, _ => by simp at h
  | x :: L, 0, e, h, he, _ => by
    simp at h; subst h
    refine ⟨by simp [bumpAt, cntE, IE.has] at he ⊢; simp [he], fun c d hne => ?_⟩
    have : x.has c d = false := by
      simp [IE.has] at he ⊢
      intro h1 h2; exact hne ⟨by omega, by omega⟩
    have h2 : ({ x with v := v } : IE).has c d = false := this
    simp [bumpAt, cntE, this, h2]
  | x :: L, j + 1, e, h, he, hb => by
    have hx : x.has a b = false := hb 0 x (by omega) rfl
    obtain ⟨h1, h2⟩ := cntE_bump (v := v) (L := L) (j := j) (e := e) (by simpa using h) he (fun m y hm hy => hb (m + 1) y (by omega) (by simpa using hy))
    refine ⟨by simp [bumpAt, cntE, hx] at h1 ⊢; exact h1, fun c d hne => ?_⟩
    have := h2 c d hne
    simp only [bumpAt, List.modify_succ_cons, cntE] at this ⊢
    rw [this]

theorem cntE_push {a b : Int} {v : Int} {n : Nat} : ∀ {L : List IE}, (∀ e ∈ L, e.has a b = false) → cntE a b (L ++ [⟨a, b, v, n⟩]) = v ∧ ∀ c d, ¬ (c = a ∧ d = b) → cntE c d (L ++ [⟨a, b, v, n⟩]) = cntE c d L
  | [], _ => by
    refine ⟨by simp [cntE, IE.has], fun c d hne => ?_⟩
    have : (⟨a, b, v, n⟩ : IE).has c d = false := by simp [IE.has]; intro h1 h2; exact hne ⟨h1.symm, h2.symm⟩
    simp [cntE, this]
  | x :: L, h => by
    have hx := h x (by simp)
    obtain ⟨h1, h2⟩ := cntE_push (a := a) (b := b) (v := v) (n := n) (L := L) (fun e he => h e (by simp [he]))
    refine ⟨by simp [cntE, hx]; exact h1, fun c d hne => ?_⟩
    simp only [List.cons_append, cntE]
    rw [h2 c d hne]

theorem findIdx_born {n : Nat} : ∀ {L : List IE} {j : Nat} {e : IE}, L.Pairwise (fun x y => x.n ≠ y.n) → L[j]? = some e → e.n = n →
    (L.map IE.ent).findIdx? (fun x => (x.born : Int) == (n : Int)) = some j
  | [], j, e, _, h, _ => by simp at h
  | x :: L, 0, e, _, h, hn => by
    simp at h; subst h
    simp [List.findIdx?_cons, IE.ent, hn]
  | x :: L, j + 1, e, hp, h, hn => by
    obtain ⟨h1, h2⟩ := List.pairwise_cons.1 hp
    have hm : e ∈ L := List.mem_of_getElem? (by simpa using h)
    have hne : ¬ (x.n : Int) = (n : Int) := by have := h1 e hm; omega
    have ih := findIdx_born (n := n) (L := L) (j := j) (e := e) h2 (by simpa using h) hn
    rw [List.map_cons, List.findIdx?_cons]
    simp only [IE.ent, beq_iff_eq, hne, if_false]
    rw [ih]
    rfl

/-- The world with another map in a block. -/
def putM (w : World) (b : Nat) (L : List IE) (clock : Nat) : World := { w with heap := w.heap.setIfInBounds b (.map (L.map IE.ent).toArray clock) }

theorem putM_heap_far {w : World} {b k : Nat} {L : List IE} {c : Nat} (h : k ≠ b) : (putM w b L c).heap[k]? = w.heap[k]? := by
  simp [putM, Ne.symm h]
theorem putM_heap_self {w : World} {b : Nat} {L : List IE} {c : Nat} (h : b < w.heap.size) : (putM w b L c).heap[b]? = some (.map (L.map IE.ent).toArray c) := by
  simp [putM, h]
theorem putM_size {w : World} {b : Nat} {L : List IE} {c : Nat} : (putM w b L c).heap.size = w.heap.size := by simp [putM]
theorem putM_cell {w : World} {b : Nat} {L : List IE} {c : Nat} {es : Array MapEntry} {k : Nat} (h : w.heap[b]? = some (.map es k)) (a : Addr) : (putM w b L c).cell? a = w.cell? a := by
  by_cases e : a.block = b
  · simp [World.cell?, e, putM_heap_self (lt_of_heap h), h]
  · simp [World.cell?, putM_heap_far e]
theorem putM_keeps {S : List Nat} {a w : World} {b : Nat} {L : List IE} {c : Nat} (h : Keeps S a w) (hb : b < a.heap.size → b ∈ S) : Keeps S a (putM w b L c) :=
  h.trans (T := [b]) ⟨rfl, rfl, rfl, by rw [putM_size]; exact Nat.le_refl _, fun k _ hk => putM_heap_far (by simpa using hk)⟩ (by simpa using hb)

/-- An entry of the list bears the key and the stamp. -/
structure Hit (L : List IE) (a b : Int) (j n : Nat) : Prop where
  at_ : ∃ e, L[j]? = some e ∧ e.n = n ∧ e.has a b = true
  first : ∀ m x, m < j → L[m]? = some x → x.has a b = false

theorem run_mapEntry_idx {w : World} {mb : Nat} {L : List IE} {clock : Nat} (h : IdxAt w mb L clock) (a b : Int) :
    ∃ (n j : Nat) (L' : List IE) (clock' : Nat), (Instr.mapEntry 50 (.map (some mb)) (K2 a b)).run Tryz.prog w = .ok (.tuple #[.int .i64 (cntE a b L), .int .i64 n]) (putM w mb L' clock') ∧
      IdxAt (putM w mb L' clock') mb L' clock' ∧ (∀ c d, cntE c d L' = cntE c d L) ∧ Hit L' a b j n := by
  have hf := find_key a b w L
  have hg := run_getObj_idx h
  have hc := check111 false a b w
  have hl := lt_of_heap h.heap
  have hset : ∀ (L' : List IE) (c' : Nat), (setObj mb (.map (L'.map IE.ent).toArray c')).run Tryz.prog w = .ok () (putM w mb L' c') := fun L' c' => MapKept.run_setObj_map _ h.heap
  rw [show (Value.agg #[.int .i64 a, .int .i64 b]) = K2 a b from rfl] at hc
  cases hfe : findE a b L 0 with
  | none =>
    obtain ⟨h1, h2⟩ := findE_none hfe
    obtain ⟨g1, g2⟩ := cntE_push (a := a) (b := b) (v := 0) (n := clock) h2
    refine ⟨clock, L.length, L ++ [⟨a, b, 0, clock⟩], clock + 1, ?_, ⟨putM_heap_self hl, ?_, ?_⟩, ?_, ⟨⟨⟨a, b, 0, clock⟩, by simp, rfl, by simp [IE.has]⟩, ?_⟩⟩
    · unfold Instr.mapEntry
      simp only [Sem.run_bind, Tryz.runUnderlying50, Result.andThen_ok, hg, hc, hf, hfe, Tryz.zeroValue3]
      have hp : (L.map IE.ent).toArray.push { key := K2 a b, val := .int .i64 0, born := clock } = ((L ++ [(⟨a, b, 0, clock⟩ : IE)]).map IE.ent).toArray := by simp [IE.ent]
      rw [hp, hset]
      simp [h1, goInt, go_sem]
    · intro e he
      rcases List.mem_append.1 he with he | he
      · have := h.born e he; omega
      · simp at he; subst he; simp
    · refine List.pairwise_append.2 ⟨h.apart, by simp, fun x hx y hy => ?_⟩
      simp at hy; subst hy
      have := h.born x hx; simp; omega
    · intro c d
      by_cases e : c = a ∧ d = b
      · rw [e.1, e.2, g1, h1]
      · exact g2 c d e
    · intro m x hm hx
      rw [List.getElem?_append_left hm] at hx
      exact h2 x (List.mem_of_getElem? hx)
  | some p =>
    obtain ⟨j, v⟩ := p
    obtain ⟨k, e, hj, he, heh, hv, hc', hfirst⟩ := findE_some hfe
    have hjk : j = k := by omega
    subst hjk
    refine ⟨e.n, j, L, clock, ?_, ⟨putM_heap_self hl, h.born, h.apart⟩, fun _ _ => rfl, ⟨⟨e, he, rfl, heh⟩, hfirst⟩⟩
    unfold Instr.mapEntry
    have hej : ((L.map IE.ent).toArray)[j]? = some e.ent := by simp [he]
    have hkey : e.ent.key = K2 a b := by
      simp [IE.has] at heh
      simp [IE.ent, heh.1, heh.2]
    have hstay : (Instr.keyThatStays (K2 a b) (K2 a b)).run Tryz.prog w = .ok (K2 a b) w := by
      unfold Instr.keyThatStays
      have : Instr.sameBits 10000 (K2 a b) (K2 a b) = true := by simp [K2, Instr.sameBits]
      rw [this]; rfl
    simp only [Sem.run_bind, Tryz.runUnderlying50, Result.andThen_ok, hg, hc, hf, hfe, hej, Option.map_some, Option.getD_some, hkey, hstay]
    have hmod : ((L.map IE.ent).toArray.modify j fun e => { e with key := K2 a b }) = (L.map IE.ent).toArray := by
      apply Array.ext_getElem?
      intro i
      rw [Array.getElem?_modify]
      split
      · rename_i hi; subst hi; rw [hej]; simp [← hkey]
      · rfl
    rw [hmod, hset]
    simp [hv, hc', goInt, IE.ent, go_sem]

theorem run_entryStore_idx {w : World} {mb : Nat} {L : List IE} {clock : Nat} (h : IdxAt w mb L clock) {a b : Int} {j n : Nat} (hit : Hit L a b j n) (v : Int) :
    (Instr.entryStore 50 (.map (some mb)) (.int .i64 n) (.int .i64 v)).run Tryz.prog w = .ok () (putM w mb (bumpAt j v L) clock) ∧
      IdxAt (putM w mb (bumpAt j v L) clock) mb (bumpAt j v L) clock ∧ cntE a b (bumpAt j v L) = v ∧ ∀ c d, ¬ (c = a ∧ d = b) → cntE c d (bumpAt j v L) = cntE c d L := by
  obtain ⟨⟨e, he, hn, heh⟩, hfirst⟩ := hit
  have hl := lt_of_heap h.heap
  have hset : ∀ (L' : List IE) (c' : Nat), (setObj mb (.map (L'.map IE.ent).toArray c')).run Tryz.prog w = .ok () (putM w mb L' c') := fun L' c' => MapKept.run_setObj_map _ h.heap
  obtain ⟨g1, g2⟩ := cntE_bump (v := v) he heh hfirst
  refine ⟨?_, ⟨putM_heap_self hl, ?_, ?_⟩, g1, g2⟩
  · unfold Instr.entryStore
    have hidx := findIdx_born h.apart he hn
    have hidx' : (L.map IE.ent).toArray.findIdx? (fun x => (x.born : Int) == (n : Int)) = some j := by simpa using hidx
    simp only [Sem.run_bind, run_getObj_idx h, Result.andThen_ok, asInt, Sem.run_pure]
    have hmod : ((L.map IE.ent).toArray.modify j fun e => { e with val := .int .i64 v }) = ((bumpAt j v L).map IE.ent).toArray := by
      apply Array.ext_getElem?
      intro i
      rw [Array.getElem?_modify]
      simp [bumpAt, List.getElem?_modify]
      by_cases hi : j = i <;> simp [hi]
      · cases L[i]? <;> simp [IE.ent]
      · cases L[i]? <;> rfl
    have hasInt : (asIntOf (.int .i64 (n : Int))).run Tryz.prog w = .ok (.i64, (n : Int)) w := rfl
    rw [hasInt]
    simp only [Result.andThen_ok, hidx']
    rw [hmod, hset]
  · intro x hx
    obtain ⟨i, hi⟩ := List.mem_iff_getElem?.1 hx
    simp only [bumpAt, List.getElem?_modify] at hi
    cases hL : L[i]? with
    | none => simp [hL] at hi
    | some y =>
      have hy := h.born y (List.mem_of_getElem? hL)
      rw [hL] at hi; simp at hi
      split at hi
      · rw [← hi]; exact hy
      · rw [← hi]; exact hy
  · have : (bumpAt j v L).map (·.n) = L.map (·.n) := by
      apply List.ext_getElem?
      intro i
      simp [bumpAt, List.getElem?_modify]
      by_cases hi : j = i <;> simp [hi] <;> cases L[i]? <;> simp
    have hp : (L.map (·.n)).Pairwise (· ≠ ·) := List.pairwise_map.2 h.apart
    rw [← this] at hp
    exact List.pairwise_map.1 hp

end Go.Proofs.Sess
