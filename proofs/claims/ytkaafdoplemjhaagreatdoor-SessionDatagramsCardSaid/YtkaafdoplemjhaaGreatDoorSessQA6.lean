/- A part of the proof that a session of datagrams answers as the reference (SessionDatagrams). Its contents: contracts of functions of the program, each stated with its premises. -/
import Derived.Test.YtkaafdoplemjhaaGreatDoorSessQA5
import Derived.Test.YtkaafdoplemjhaaGreatDoorSessQA2
import Derived.Lib.Hide
import Derived.Deep.RegionLaw
import Derived.BigRegion
import Derived.Deep.DeepCutAuto
import Derived.WalkSpells
namespace Go.Proofs.Sess
open Go Go.RowKit

theorem info39 : (Tryz.prog.info? 39).map (fun i => (i.zero, i.size, i.bytes)) = some (some (.agg #[.int .i64 0, .int .i64 0, .int .i64 0, .string ⟨#[]⟩]), 4, 40) := by kernel_rfl

def cutS (s : ByteArray) : ByteArray := if s.size ≤ 1024 then s else s.extract 0 1024

def bufV (kind dir n : Int) (s : ByteArray) : List Value := [.int .i64 kind, .int .i64 dir, .int .i64 n, .string s]

theorem extract_all (s : ByteArray) : s.extract 0 s.size = s := by
  apply ByteArray.ext
  rw [ByteArray.data_extract]
  exact Array.extract_eq_self_of_le (by show s.data.size ≤ _; exact Nat.le_refl _)

theorem heap_alloc2 {w : World} {o1 o2 : Obj} : ((w.alloc o1).alloc o2).drew.heap[w.heap.size + 1]? = some o2 := by
  have h := heap_alloc_self (w := w.alloc o1) (o := o2)
  have e : (w.alloc o1).heap.size = w.heap.size + 1 := by simp
  rw [e] at h
  exact h

theorem heap_alloc1 {w : World} {o1 o2 : Obj} : ((w.alloc o1).alloc o2).drew.heap[w.heap.size]? = some o1 := by
  show ((w.alloc o1).alloc o2).heap[w.heap.size]? = _
  rw [heap_alloc_far (by simp), heap_alloc_self]

theorem grown2_cell {w w1 : World} {o1 o2 : Obj} {row : Option Nat} {b o : Nat} {v : Value} (hg : ((w.alloc o1).alloc o2).drew.grownBy w1 row) (hne : row ≠ some b) (hc : w.cell? ⟨b, o, none⟩ = some v) : w1.cell? ⟨b, o, none⟩ = some v := by
  have hl := World.block_lt_of_cell? w _ hc
  refine (hg.cell_far ⟨b, o, none⟩ (by simp; simp at hl; omega) (Ne.symm hne)).trans ?_
  exact ((((Keeps.refl [] w).alloc o1).alloc o2).drew.cell hc (by simp))

theorem grown2_frozen {w w1 : World} {o1 o2 : Obj} {row : Option Nat} {b o : Nat} (hg : ((w.alloc o1).alloc o2).drew.grownBy w1 row) (hne : row ≠ some b) (hb : b < w.heap.size) (hc : w.frozen? ⟨b, o, none⟩ = false) : w1.frozen? ⟨b, o, none⟩ = false := by
  refine (hg.frozen_far ⟨b, o, none⟩ (by simp; omega) (Ne.symm hne)).trans ?_
  rw [World.frozen?_of_block (w := w) (a := ⟨b, o, none⟩) ((((Keeps.refl [] w).alloc o1).alloc o2).drew.block b hb (by simp))]
  exact hc

theorem own_ne_map {w : World} {base : Nat} {e : TypeId} {size n : Nat} {v : Value} {xs : List Value} (h : w.ownsRow base e size v n xs) {mb : Nat} {es : Array MapEntry} {c : Nat} (hm : w.heap[mb]? = some (.map es c)) : v.ownBlock ≠ some mb := by
  rcases h.2 with ⟨hv, _⟩ | ⟨g, cap, cur, hv, _, hg, _⟩
  · rw [hv]; simp [Value.ownBlock]
  · rw [hv]
    intro e'
    have : g = mb := by simpa [Value.ownBlock] using e'
    rw [this, hm] at hg
    cases hg

/-- What the first half of put leaves. -/
def PutMid (w : World) (b mb : Nat) (cs : Array Value) (ov : Value) (n : Nat) (xs : List Value) (kind dir c : Int) (s : ByteArray) (wx : World) : Prop :=
  ∃ (g cap : Nat), wx.heap[b]? = some (.cells (cs.setIfInBounds 30 (.slice (some ⟨g, 0, none⟩) (n + 1) cap)) 59 (0, 0)) ∧ wx.heap[mb]? = w.heap[mb]? ∧
    wx.heap[w.heap.size]? = some (.cells #[.int .i64 kind, .int .i64 dir] 111 (0, 0)) ∧
    wx.ownsRow 0 39 4 (.slice (some ⟨g, 0, none⟩) (n + 1) cap) (n + 1) (xs ++ bufV kind dir c (cutS s)) ∧ Keeps ([b] ++ ov.ownBlock.toList) w wx ∧ (ov.ownBlock = some g ∨ w.heap.size ≤ g)

theorem put_mid {w w1 : World} {b mb : Nat} {cs : Array Value} {ov : Value} {n : Nat} {xs : List Value} {kind dir c : Int} {s : ByteArray} {gg cap : Nat}
    (hb : w.heap[b]? = some (.cells cs 59 (0, 0))) (lm : mb < w.heap.size) (hbm : mb ≠ b) (hne : ov.ownBlock ≠ some b) (hnm : ov.ownBlock ≠ some mb) (hol : ∀ k, ov.ownBlock = some k → k < w.heap.size)
    (hown1 : w1.ownsRow 0 39 4 (.slice (some ⟨gg, 0, none⟩) (n + 1) cap) (n + 1) (xs ++ bufV kind dir c (cutS s)))
    (hgrow : (((w.alloc (.cells #[.int .i64 kind, .int .i64 dir] 111)).alloc (.cells #[.int .i64 kind, .int .i64 dir, .int .i64 c, .string (cutS s)] 39)).drew).grownBy w1 ov.ownBlock)
    (hat : ov.ownBlock = some gg ∨ gg = w.heap.size + 2) :
    PutMid w b mb cs ov n xs kind dir c s (w1.setCell ⟨b, 30, none⟩ (.slice (some ⟨gg, 0, none⟩) (n + 1) cap)) := by
  have lb := lt_of_heap hb
  have hk0 : Keeps ov.ownBlock.toList w w1 := (((Keeps.refl _ w).alloc _).alloc _).drew.grown hgrow (fun k hk _ => by rw [hk]; simp)
  have hsz : w.heap.size + 2 ≤ w1.heap.size := by have := hgrow.size; simp at this; omega
  have hg1 : gg ≠ b := by
    rcases hat with h | h
    · intro e; exact hne (by rw [h, e])
    · omega
  have e1 : w1.heap[b]? = some (.cells cs 59 (0, 0)) := hk0.heap hb (by simpa using fun h => hne (by simpa using h))
  refine ⟨gg, cap, heap_setCell_self e1 _, ?_, ?_, ?_, ?_, ?_⟩
  · rw [heap_setCell_far hbm]
    exact hk0.block mb lm (by simpa using fun h => hnm (by simpa using h))
  · rw [heap_setCell_far (by show w.heap.size ≠ b; omega)]
    rw [hgrow.block w.heap.size (by simp; omega) (fun e => by have := hol _ e.symm; omega)]
    show ((w.alloc _).alloc _).heap[w.heap.size]? = _
    rw [heap_alloc_far (by simp), heap_alloc_self]
  · exact hown1.kept (row := some b) ⟨rfl, rfl, rfl, by simp [World.setCell], fun k _ hk => heap_setCell_far (fun e => hk (by rw [e])) _⟩ (.inr (by simp [Value.ownBlock, hg1]))
  · exact (hk0.mono (by simp; intro x hx _; exact .inr hx)).setCell (by simp) _
  · rcases hat with h | h
    · exact .inl h
    · exact .inr (by omega)

/-- What put leaves. -/
def PutPost (w : World) (b mb : Nat) (cs : Array Value) (L : List IE) (ov : Value) (n : Nat) (xs : List Value) (kind dir : Int) (s : ByteArray) (e : Ending) (w' : World) : Prop :=
  e = .returned (.tuple #[]) ∧ ∃ (g cap : Nat) (L' : List IE) (clock' : Nat), w'.heap[b]? = some (.cells (cs.setIfInBounds 30 (.slice (some ⟨g, 0, none⟩) (n + 1) cap)) 59 (0, 0)) ∧ IdxAt w' mb L' clock' ∧
    cntE kind dir L' = cntE kind dir L + 1 ∧ (∀ c d, ¬ (c = kind ∧ d = dir) → cntE c d L' = cntE c d L) ∧
    w'.ownsRow 0 39 4 (.slice (some ⟨g, 0, none⟩) (n + 1) cap) (n + 1) (xs ++ bufV kind dir (cntE kind dir L) (cutS s)) ∧ Keeps ([b, mb] ++ ov.ownBlock.toList) w w' ∧ (ov.ownBlock = some g ∨ w.heap.size ≤ g)

set_option maxRecDepth 100000 in
set_option maxHeartbeats 3200000 in
theorem put_any (w : World) (b mb : Nat) (cs : Array Value) (L : List IE) (clock : Nat) (ov : Value) (n : Nat) (xs : List Value) (kind dir : Int) (s : ByteArray)
    (hb : w.heap[b]? = some (.cells cs 59 (0, 0))) (h13 : cs[13]? = some (.map (some mb))) (h30 : cs[30]? = some ov) (hidx : IdxAt w mb L clock)
    (hown : w.ownsRow 0 39 4 ov n xs) (hn : n < 1000000) (hne : ov.ownBlock ≠ some b) (hc0 : 0 ≤ cntE kind dir L) (hc1 : cntE kind dir L < 1000000) :
    Calls Tryz.prog 36 #[.pointer (some ⟨b, 0, none⟩), .int .i64 kind, .int .i64 dir, .string s] w (PutPost w b mb cs L ov n xs kind dir s) := by
  obtain ⟨i0, hi0, hz0, hz1, hz2⟩ := info_parts info39
  have lb := lt_of_heap hb
  have lm := lt_of_heap hidx.heap
  have hbm : mb ≠ b := fun e => by have := hidx.heap; rw [e, hb] at this; cases this
  have hnm := own_ne_map hown hidx.heap
  have c13 := cell_of_heap hb h13
  have c30 := cell_of_heap hb h30
  have f30 := free_of_heap (o := 30) hb
  have HM : Hid (∀ (w1 : World) (gg cap : Nat), w1.ownsRow 0 39 4 (.slice (some ⟨gg, 0, none⟩) (n + 1) cap) (n + 1) (xs ++ bufV kind dir (cntE kind dir L) (cutS s)) →
    (((w.alloc (.cells #[.int .i64 kind, .int .i64 dir] 111)).alloc (.cells #[.int .i64 kind, .int .i64 dir, .int .i64 (cntE kind dir L), .string (cutS s)] 39)).drew).grownBy w1 ov.ownBlock → (ov.ownBlock = some gg ∨ gg = w.heap.size + 2) →
    PutMid w b mb cs ov n xs kind dir (cntE kind dir L) s (w1.setCell ⟨b, 30, none⟩ (.slice (some ⟨gg, 0, none⟩) (n + 1) cap))) :=
    fun w1 gg cap h1 h2 h3 => put_mid hb lm hbm hne hnm (fun k hk => (hown.lt k hk).2) h1 h2 h3
  have hlk : ∀ wx : World, wx.heap[mb]? = w.heap[mb]? → (Instr.lookup 50 (.map (some mb)) (.agg #[.int .i64 kind, .int .i64 dir]) false).run Tryz.prog wx = .ok (.int .i64 (cntE kind dir L)) wx := fun wx h => run_lookup_idx ⟨h.trans hidx.heap, hidx.born, hidx.apart⟩ kind dir
  have HLK := Lib.hid hlk
  have h13' : Hid (cs[13]? = some (.map (some mb))) := h13
  have H : Hid (IdxAt w mb L clock) := hidx
  have HB : Hid (w.heap[b]? = some (.cells cs 59 (0, 0))) := hb
  clear hidx hb h13 h30 hlk
  have h0 : (0 : Int) ≤ (s.size : Int) := by omega
  go_enter Tryz.func36, Tryz.ntmps36
  go_upto_region 1 with fail
  go_cut [] (fun wx => PutMid w b mb cs ov n xs kind dir (cntE kind dir L) s wx)
  case first =>
    have HSA : ∀ E : Obj, (fun wx : World => wx.cell? ⟨b, 30, none⟩ = some ov ∧ wx.cell? ⟨b, 13, none⟩ = some (.map (some mb)) ∧ wx.cell? ⟨w.heap.size, 0, none⟩ = some (.int .i64 kind) ∧ wx.cell? ⟨w.heap.size, 1, none⟩ = some (.int .i64 dir) ∧ (Instr.lookup 50 (.map (some mb)) (.agg #[.int .i64 kind, .int .i64 dir]) false).run Tryz.prog wx = .ok (.int .i64 (cntE kind dir L)) wx) (((w.alloc (.cells #[.int .i64 kind, .int .i64 dir] 111)).alloc E).drew) := fun E => by
      have hk := (((Keeps.refl [] w).alloc (.cells #[.int .i64 kind, .int .i64 dir] 111)).alloc E).drew
      have hkb := heap_alloc1 (w := w) (o1 := .cells #[.int .i64 kind, .int .i64 dir] 111) (o2 := E)
      exact ⟨hk.cell c30 (by simp), hk.cell c13 (by simp), cell_of_heap hkb rfl, cell_of_heap hkb rfl, HLK.out _ (hk.block mb lm (by simp))⟩
    have hS : (fun wx : World => wx.cell? ⟨b, 30, none⟩ = some ov ∧ wx.cell? ⟨b, 13, none⟩ = some (.map (some mb)) ∧ wx.cell? ⟨w.heap.size, 0, none⟩ = some (.int .i64 kind) ∧ wx.cell? ⟨w.heap.size, 1, none⟩ = some (.int .i64 dir) ∧ (Instr.lookup 50 (.map (some mb)) (.agg #[.int .i64 kind, .int .i64 dir]) false).run Tryz.prog wx = .ok (.int .i64 (cntE kind dir L)) wx) ((w.alloc (.cells #[.int .i64 kind, .int .i64 dir] 111)).drew) := by
      have hk := ((Keeps.refl [] w).alloc (.cells #[.int .i64 kind, .int .i64 dir] 111)).drew
      have hkb : (w.alloc (.cells #[.int .i64 kind, .int .i64 dir] 111)).drew.heap[w.heap.size]? = some (.cells #[.int .i64 kind, .int .i64 dir] 111) := heap_alloc_self
      exact ⟨hk.cell c30 (by simp), hk.cell c13 (by simp), cell_of_heap hkb rfl, cell_of_heap hkb rfl, HLK.out _ (hk.block mb lm (by simp))⟩
    by_cases hsz : (1024 : Int) < (s.size : Int)
    · have hx : (1024 : Int) ≤ (s.size : Int) := by omega
      have hcut0 : cutS s = s.extract 0 1024 := by unfold cutS; rw [if_neg (by omega)]
      rw [hcut0] at HM
      clear hcut0
      refine wp_region_seq (fun wx : World => wx.cell? ⟨b, 30, none⟩ = some ov ∧ wx.cell? ⟨b, 13, none⟩ = some (.map (some mb)) ∧ wx.cell? ⟨w.heap.size, 0, none⟩ = some (.int .i64 kind) ∧ wx.cell? ⟨w.heap.size, 1, none⟩ = some (.int .i64 dir) ∧ (Instr.lookup 50 (.map (some mb)) (.agg #[.int .i64 kind, .int .i64 dir]) false).run Tryz.prog wx = .ok (.int .i64 (cntE kind dir L)) wx)
        [(0, 0), (1, 0), (2, 0), (3, 0), (4, 1), (5, 0), (6, 0), (7, 0), (8, 0), (9, 0), (10, 1), (11, 1), (12, 1), (13, 0), (14, 0), (15, 0), (16, 0), (17, 0), (18, 0), (19, 2), (20, 3), (21, 0), (22, 0), (23, 3)]
        [[20, 4], [20, 19, 18, 12, 10], [20, 19, 18, 12, 11], [20, 19, 18, 12], [23, 4], [23, 10], [23, 11], [23, 12]] (by kernel_rfl) (by kernel_rfl) (fun d _ _ _ _ h => by cases d <;> exact h) ?_
      simp only [picks, List.getD_cons_succ, List.getD_cons_zero]
      (refine seq_pure (v := ?_) (by rfl) ?_ ?_; rotate_left; focus (intro wq; first | (go_simp; done) | (go_simp; with_reducible rfl))); (try simp only [Act.put, List.setIfInBounds_toArray, List.set_cons_zero, List.set_cons_succ])
      (refine seq_pure (v := ?_) (by rfl) ?_ ?_; rotate_left; focus (intro wq; first | (go_simp; done) | (go_simp; with_reducible rfl))); (try simp only [Act.put, List.setIfInBounds_toArray, List.set_cons_zero, List.set_cons_succ])
      (refine seq_pure (v := ?_) (by rfl) ?_ ?_; rotate_left; focus (intro wq; first | (go_simp; done) | (go_simp; with_reducible rfl))); (try simp only [Act.put, List.setIfInBounds_toArray, List.set_cons_zero, List.set_cons_succ])
      (refine seq_pure (v := ?_) (by rfl) ?_ ?_; rotate_left; focus (intro wq; first | (go_simp; done) | (go_simp; with_reducible rfl))); (try simp only [Act.put, List.setIfInBounds_toArray, List.set_cons_zero, List.set_cons_succ])
      (refine seq_read (v := ?_) hS (by rfl) ?_ ?_; rotate_left; focus (intro wq hSq; obtain ⟨hq1, hq2, hq3, hq4, hq5⟩ := hSq; first | (go_simp; done) | (go_simp; with_reducible rfl))); (try simp only [Act.put, List.setIfInBounds_toArray, List.set_cons_zero, List.set_cons_succ])
      (refine seq_pure (v := ?_) (by rfl) ?_ ?_; rotate_left; focus (intro wq; first | (go_simp; done) | (go_simp; with_reducible rfl))); (try simp only [Act.put, List.setIfInBounds_toArray, List.set_cons_zero, List.set_cons_succ])
      (refine seq_pure (v := ?_) (by rfl) ?_ ?_; rotate_left; focus (intro wq; first | (go_simp; done) | (go_simp; with_reducible rfl))); (try simp only [Act.put, List.setIfInBounds_toArray, List.set_cons_zero, List.set_cons_succ])
      (refine seq_pure (v := ?_) (by rfl) ?_ ?_; rotate_left; focus (intro wq; first | (go_simp; done) | (go_simp; with_reducible rfl))); (try simp only [Act.put, List.setIfInBounds_toArray, List.set_cons_zero, List.set_cons_succ])
      (refine seq_pure (v := ?_) (by rfl) ?_ ?_; rotate_left; focus (intro wq; first | (go_simp; done) | (go_simp; with_reducible rfl))); (try simp only [Act.put, List.setIfInBounds_toArray, List.set_cons_zero, List.set_cons_succ])
      (refine seq_pure (v := ?_) (by rfl) ?_ ?_; rotate_left; focus (intro wq; first | (go_simp; done) | (go_simp; with_reducible rfl))); (try simp only [Act.put, List.setIfInBounds_toArray, List.set_cons_zero, List.set_cons_succ])
      (refine seq_read (v := ?_) hS (by rfl) ?_ ?_; rotate_left; focus (intro wq hSq; obtain ⟨hq1, hq2, hq3, hq4, hq5⟩ := hSq; first | (go_simp; done) | (go_simp; with_reducible rfl))); (try simp only [Act.put, List.setIfInBounds_toArray, List.set_cons_zero, List.set_cons_succ])
      (refine seq_read (v := ?_) hS (by rfl) ?_ ?_; rotate_left; focus (intro wq hSq; obtain ⟨hq1, hq2, hq3, hq4, hq5⟩ := hSq; first | (go_simp; done) | (go_simp; with_reducible rfl))); (try simp only [Act.put, List.setIfInBounds_toArray, List.set_cons_zero, List.set_cons_succ])
      (refine seq_read (v := ?_) hS (by rfl) ?_ ?_; rotate_left; focus (intro wq hSq; obtain ⟨hq1, hq2, hq3, hq4, hq5⟩ := hSq; first | (go_simp; done) | (go_simp; with_reducible rfl))); (try simp only [Act.put, List.setIfInBounds_toArray, List.set_cons_zero, List.set_cons_succ])
      (refine seq_pure (v := ?_) (by rfl) ?_ ?_; rotate_left; focus (intro wq; first | (go_simp; done) | (go_simp; with_reducible rfl))); (try simp only [Act.put, List.setIfInBounds_toArray, List.set_cons_zero, List.set_cons_succ])
      (refine seq_pure (v := ?_) (by rfl) ?_ ?_; rotate_left; focus (intro wq; first | (go_simp; done) | (go_simp; with_reducible rfl))); (try simp only [Act.put, List.setIfInBounds_toArray, List.set_cons_zero, List.set_cons_succ])
      (refine seq_pure (v := ?_) (by rfl) ?_ ?_; rotate_left; focus (intro wq; first | (go_simp; done) | (go_simp; with_reducible rfl))); (try simp only [Act.put, List.setIfInBounds_toArray, List.set_cons_zero, List.set_cons_succ])
      (refine seq_pure (v := ?_) (by rfl) ?_ ?_; rotate_left; focus (intro wq; first | (go_simp; done) | (go_simp; with_reducible rfl))); (try simp only [Act.put, List.setIfInBounds_toArray, List.set_cons_zero, List.set_cons_succ])
      (refine seq_pure (v := ?_) (by rfl) ?_ ?_; rotate_left; focus (intro wq; first | (go_simp; done) | (go_simp; with_reducible rfl))); (try simp only [Act.put, List.setIfInBounds_toArray, List.set_cons_zero, List.set_cons_succ])
      (refine seq_pure (v := ?_) (by rfl) ?_ ?_; rotate_left; focus (intro wq; first | (go_simp; done) | (go_simp; with_reducible rfl))); (try simp only [Act.put, List.setIfInBounds_toArray, List.set_cons_zero, List.set_cons_succ])
      refine seq_act (fun K hK => ?_)
      go_simp
      have hS1 : (fun wx : World => wx.cell? ⟨b, 30, none⟩ = some ov ∧ wx.cell? ⟨b, 13, none⟩ = some (.map (some mb)) ∧ wx.cell? ⟨w.heap.size, 0, none⟩ = some (.int .i64 kind) ∧ wx.cell? ⟨w.heap.size, 1, none⟩ = some (.int .i64 dir) ∧ (Instr.lookup 50 (.map (some mb)) (.agg #[.int .i64 kind, .int .i64 dir]) false).run Tryz.prog wx = .ok (.int .i64 (cntE kind dir L)) wx) ((w.alloc (.cells #[.int .i64 kind, .int .i64 dir] 111)).alloc (.cells #[.int .i64 kind, .int .i64 dir, .int .i64 (cntE kind dir L), .string (s.extract 0 1024)] 39)).drew := HSA _
      refine hK.out _ _ hS1 ?_
      (try simp only [Act.put, List.setIfInBounds_toArray, List.set_cons_zero, List.set_cons_succ])
      refine seq_do (fun K hK => ?_)
      refine step_append_lies _ (by rfl) _ _ _ (by rfl) 0 39 i0 _ 4 40 Tryz.underlying34 hi0 hz0 hz1 hz2 rfl (by omega) ov n xs (by rfl) (((hown.alloc _).alloc _).drew) ⟨w.heap.size + 1, 0, none⟩ 1 1 (bufV kind dir (cntE kind dir L) (s.extract 0 1024)) (by rfl) (by rfl) (World.news_of_block heap_alloc2) (by simp [bufV, Value.oneCell']) (by omega) (by unfold maxLen; omega) (by omega) (by simp) (w.heap.size + 2) (by simp) ?_
      intro gg cap w1 hown1 hgrow hat hlt
      have cw := grown2_cell hgrow hne c30
      have fw := grown2_frozen hgrow hne lb f30
      refine hK.out _ _ ?_
      (try simp only [Act.put, List.setIfInBounds_toArray, List.set_cons_zero, List.set_cons_succ])
      (refine seq_pure (v := ?_) (by rfl) ?_ ?_; rotate_left; focus (intro wq; first | (go_simp; done) | (go_simp; with_reducible rfl))); (try simp only [Act.put, List.setIfInBounds_toArray, List.set_cons_zero, List.set_cons_succ])
      (refine seq_pure (v := ?_) (by rfl) ?_ ?_; rotate_left; focus (intro wq; first | (go_simp; done) | (go_simp; with_reducible rfl))); (try simp only [Act.put, List.setIfInBounds_toArray, List.set_cons_zero, List.set_cons_succ])
      refine seq_do (fun K hK => ?_)
      go_simp
      refine hK.out _ _ ?_
      (try simp only [Act.put, List.setIfInBounds_toArray, List.set_cons_zero, List.set_cons_succ])
      refine seq_nil ?_
      go_wp2_with fail
      go_meet
      exact HM.out _ _ _ hown1 hgrow hat
    · have hex : s.extract 0 s.size = s := extract_all s
      have hcut0 : cutS s = s := by unfold cutS; rw [if_pos (by omega)]
      rw [hcut0] at HM
      clear hcut0
      refine wp_region_seq (fun wx : World => wx.cell? ⟨b, 30, none⟩ = some ov ∧ wx.cell? ⟨b, 13, none⟩ = some (.map (some mb)) ∧ wx.cell? ⟨w.heap.size, 0, none⟩ = some (.int .i64 kind) ∧ wx.cell? ⟨w.heap.size, 1, none⟩ = some (.int .i64 dir) ∧ (Instr.lookup 50 (.map (some mb)) (.agg #[.int .i64 kind, .int .i64 dir]) false).run Tryz.prog wx = .ok (.int .i64 (cntE kind dir L)) wx)
        [(0, 0), (1, 0), (2, 0), (3, 0), (4, 1), (5, 0), (6, 0), (7, 0), (8, 0), (9, 0), (10, 1), (11, 1), (12, 1), (13, 0), (14, 0), (15, 0), (16, 0), (17, 0), (18, 0), (19, 2), (20, 3), (21, 0), (22, 0), (23, 3)]
        [[20, 4], [20, 19, 18, 12, 10], [20, 19, 18, 12, 11], [20, 19, 18, 12], [23, 4], [23, 10], [23, 11], [23, 12]] (by kernel_rfl) (by kernel_rfl) (fun d _ _ _ _ h => by cases d <;> exact h) ?_
      simp only [picks, List.getD_cons_succ, List.getD_cons_zero]
      (refine seq_pure (v := ?_) (by rfl) ?_ ?_; rotate_left; focus (intro wq; first | (go_simp; done) | (go_simp; with_reducible rfl))); (try simp only [Act.put, List.setIfInBounds_toArray, List.set_cons_zero, List.set_cons_succ])
      (refine seq_pure (v := ?_) (by rfl) ?_ ?_; rotate_left; focus (intro wq; first | (go_simp; done) | (go_simp; with_reducible rfl))); (try simp only [Act.put, List.setIfInBounds_toArray, List.set_cons_zero, List.set_cons_succ])
      (refine seq_pure (v := ?_) (by rfl) ?_ ?_; rotate_left; focus (intro wq; first | (go_simp; done) | (go_simp; with_reducible rfl))); (try simp only [Act.put, List.setIfInBounds_toArray, List.set_cons_zero, List.set_cons_succ])
      (refine seq_pure (v := ?_) (by rfl) ?_ ?_; rotate_left; focus (intro wq; first | (go_simp; done) | (go_simp; with_reducible rfl))); (try simp only [Act.put, List.setIfInBounds_toArray, List.set_cons_zero, List.set_cons_succ])
      (refine seq_read (v := ?_) hS (by rfl) ?_ ?_; rotate_left; focus (intro wq hSq; obtain ⟨hq1, hq2, hq3, hq4, hq5⟩ := hSq; first | (go_simp; done) | (go_simp; with_reducible rfl))); (try simp only [Act.put, List.setIfInBounds_toArray, List.set_cons_zero, List.set_cons_succ])
      (refine seq_pure (v := ?_) (by rfl) ?_ ?_; rotate_left; focus (intro wq; first | (go_simp; done) | (go_simp; with_reducible rfl))); (try simp only [Act.put, List.setIfInBounds_toArray, List.set_cons_zero, List.set_cons_succ])
      (refine seq_pure (v := ?_) (by rfl) ?_ ?_; rotate_left; focus (intro wq; first | (go_simp; done) | (go_simp; with_reducible rfl))); (try simp only [Act.put, List.setIfInBounds_toArray, List.set_cons_zero, List.set_cons_succ])
      (refine seq_pure (v := ?_) (by rfl) ?_ ?_; rotate_left; focus (intro wq; first | (go_simp; done) | (go_simp; with_reducible rfl))); (try simp only [Act.put, List.setIfInBounds_toArray, List.set_cons_zero, List.set_cons_succ])
      (refine seq_pure (v := ?_) (by rfl) ?_ ?_; rotate_left; focus (intro wq; first | (go_simp; done) | (go_simp; with_reducible rfl))); (try simp only [Act.put, List.setIfInBounds_toArray, List.set_cons_zero, List.set_cons_succ])
      (refine seq_pure (v := ?_) (by rfl) ?_ ?_; rotate_left; focus (intro wq; first | (go_simp; done) | (go_simp; with_reducible rfl))); (try simp only [Act.put, List.setIfInBounds_toArray, List.set_cons_zero, List.set_cons_succ])
      (refine seq_read (v := ?_) hS (by rfl) ?_ ?_; rotate_left; focus (intro wq hSq; obtain ⟨hq1, hq2, hq3, hq4, hq5⟩ := hSq; first | (go_simp; done) | (go_simp; with_reducible rfl))); (try simp only [Act.put, List.setIfInBounds_toArray, List.set_cons_zero, List.set_cons_succ])
      (refine seq_read (v := ?_) hS (by rfl) ?_ ?_; rotate_left; focus (intro wq hSq; obtain ⟨hq1, hq2, hq3, hq4, hq5⟩ := hSq; first | (go_simp; done) | (go_simp; with_reducible rfl))); (try simp only [Act.put, List.setIfInBounds_toArray, List.set_cons_zero, List.set_cons_succ])
      (refine seq_read (v := ?_) hS (by rfl) ?_ ?_; rotate_left; focus (intro wq hSq; obtain ⟨hq1, hq2, hq3, hq4, hq5⟩ := hSq; first | (go_simp; done) | (go_simp; with_reducible rfl))); (try simp only [Act.put, List.setIfInBounds_toArray, List.set_cons_zero, List.set_cons_succ])
      (refine seq_pure (v := ?_) (by rfl) ?_ ?_; rotate_left; focus (intro wq; first | (go_simp; done) | (go_simp; with_reducible rfl))); (try simp only [Act.put, List.setIfInBounds_toArray, List.set_cons_zero, List.set_cons_succ])
      (refine seq_pure (v := ?_) (by rfl) ?_ ?_; rotate_left; focus (intro wq; first | (go_simp; done) | (go_simp; with_reducible rfl))); (try simp only [Act.put, List.setIfInBounds_toArray, List.set_cons_zero, List.set_cons_succ])
      (refine seq_pure (v := ?_) (by rfl) ?_ ?_; rotate_left; focus (intro wq; first | (go_simp; done) | (go_simp; with_reducible rfl))); (try simp only [Act.put, List.setIfInBounds_toArray, List.set_cons_zero, List.set_cons_succ])
      (refine seq_pure (v := ?_) (by rfl) ?_ ?_; rotate_left; focus (intro wq; first | (go_simp; done) | (go_simp; with_reducible rfl))); (try simp only [Act.put, List.setIfInBounds_toArray, List.set_cons_zero, List.set_cons_succ])
      (refine seq_pure (v := ?_) (by rfl) ?_ ?_; rotate_left; focus (intro wq; first | (go_simp; done) | (go_simp; with_reducible rfl))); (try simp only [Act.put, List.setIfInBounds_toArray, List.set_cons_zero, List.set_cons_succ])
      (refine seq_pure (v := ?_) (by rfl) ?_ ?_; rotate_left; focus (intro wq; first | (go_simp; done) | (go_simp; with_reducible rfl))); (try simp only [Act.put, List.setIfInBounds_toArray, List.set_cons_zero, List.set_cons_succ])
      refine seq_act (fun K hK => ?_)
      go_simp
      have hS1 : (fun wx : World => wx.cell? ⟨b, 30, none⟩ = some ov ∧ wx.cell? ⟨b, 13, none⟩ = some (.map (some mb)) ∧ wx.cell? ⟨w.heap.size, 0, none⟩ = some (.int .i64 kind) ∧ wx.cell? ⟨w.heap.size, 1, none⟩ = some (.int .i64 dir) ∧ (Instr.lookup 50 (.map (some mb)) (.agg #[.int .i64 kind, .int .i64 dir]) false).run Tryz.prog wx = .ok (.int .i64 (cntE kind dir L)) wx) ((w.alloc (.cells #[.int .i64 kind, .int .i64 dir] 111)).alloc (.cells #[.int .i64 kind, .int .i64 dir, .int .i64 (cntE kind dir L), .string s] 39)).drew := HSA _
      refine hK.out _ _ hS1 ?_
      (try simp only [Act.put, List.setIfInBounds_toArray, List.set_cons_zero, List.set_cons_succ])
      refine seq_do (fun K hK => ?_)
      refine step_append_lies _ (by rfl) _ _ _ (by rfl) 0 39 i0 _ 4 40 Tryz.underlying34 hi0 hz0 hz1 hz2 rfl (by omega) ov n xs (by rfl) (((hown.alloc _).alloc _).drew) ⟨w.heap.size + 1, 0, none⟩ 1 1 (bufV kind dir (cntE kind dir L) s) (by rfl) (by rfl) (World.news_of_block heap_alloc2) (by simp [bufV, Value.oneCell']) (by omega) (by unfold maxLen; omega) (by omega) (by simp) (w.heap.size + 2) (by simp) ?_
      intro gg cap w1 hown1 hgrow hat hlt
      have cw := grown2_cell hgrow hne c30
      have fw := grown2_frozen hgrow hne lb f30
      refine hK.out _ _ ?_
      (try simp only [Act.put, List.setIfInBounds_toArray, List.set_cons_zero, List.set_cons_succ])
      (refine seq_pure (v := ?_) (by rfl) ?_ ?_; rotate_left; focus (intro wq; first | (go_simp; done) | (go_simp; with_reducible rfl))); (try simp only [Act.put, List.setIfInBounds_toArray, List.set_cons_zero, List.set_cons_succ])
      (refine seq_pure (v := ?_) (by rfl) ?_ ?_; rotate_left; focus (intro wq; first | (go_simp; done) | (go_simp; with_reducible rfl))); (try simp only [Act.put, List.setIfInBounds_toArray, List.set_cons_zero, List.set_cons_succ])
      refine seq_do (fun K hK => ?_)
      go_simp
      refine hK.out _ _ ?_
      (try simp only [Act.put, List.setIfInBounds_toArray, List.set_cons_zero, List.set_cons_succ])
      refine seq_nil ?_
      go_wp2_with fail
      go_meet
      exact HM.out _ _ _ hown1 hgrow hat
  case rest =>
    go_wp2_with fail
    obtain ⟨g, cap, hb2, hm2, hk2, hown2, hkeep2, hat2⟩ := hcut
    have hix : IdxAt wc.drew mb L clock := ⟨hm2.trans H.out.heap, H.out.born, H.out.apart⟩
    obtain ⟨ns, j, L1, k1, hme, hix1, hcnt1, hit⟩ := run_mapEntry_idx hix kind dir
    obtain ⟨hes, hix2, hcv, hcn⟩ := run_entryStore_idx hix1 hit (cntE kind dir L + 1)
    have hme' : (Instr.mapEntry 50 (.map (some mb)) (.agg #[.int .i64 kind, .int .i64 dir])).run Tryz.prog wc.drew = .ok (.tuple #[.int .i64 (cntE kind dir L), .int .i64 ns]) (putM wc.drew mb L1 k1) := hme
    have e13 : (cs.setIfInBounds 30 (.slice (some ⟨g, 0, none⟩) (n + 1) cap))[13]? = some (.map (some mb)) := by rw [Array.getElem?_setIfInBounds_ne (by omega)]; exact h13'.out
    have hS : (fun wx : World => wx.cell? ⟨b, 13, none⟩ = some (.map (some mb)) ∧ wx.cell? ⟨w.heap.size, 0, none⟩ = some (.int .i64 kind) ∧ wx.cell? ⟨w.heap.size, 1, none⟩ = some (.int .i64 dir) ∧ (Instr.lookup 50 (.map (some mb)) (.agg #[.int .i64 kind, .int .i64 dir]) false).run Tryz.prog wx = .ok (.int .i64 (cntE kind dir L)) wx) wc.drew := ⟨cell_of_heap (w := wc) hb2 e13, cell_of_heap (w := wc) hk2 rfl, cell_of_heap (w := wc) hk2 rfl, run_lookup_idx hix kind dir⟩
    have hlk2 := run_lookup_idx hix1 kind dir
    rw [hcnt1] at hlk2
    have hpm := fun a => putM_cell (L := L1) (c := k1) hix.heap a
    have HS2 : (fun wx : World => wx.cell? ⟨b, 13, none⟩ = some (.map (some mb)) ∧ wx.cell? ⟨w.heap.size, 0, none⟩ = some (.int .i64 kind) ∧ wx.cell? ⟨w.heap.size, 1, none⟩ = some (.int .i64 dir) ∧ (Instr.lookup 50 (.map (some mb)) (.agg #[.int .i64 kind, .int .i64 dir]) false).run Tryz.prog wx = .ok (.int .i64 (cntE kind dir L)) wx) (putM wc.drew mb L1 k1) := ⟨(hpm _).trans hS.1, (hpm _).trans hS.2.1, (hpm _).trans hS.2.2.1, hlk2⟩
    have HF : Hid (PutPost w b mb cs L ov n xs kind dir s (.returned (.tuple #[])) (putM (putM wc.drew mb L1 k1) mb (bumpAt j (cntE kind dir L + 1) L1) k1)) := by
      have hgm : g ≠ mb := by
        rcases hat2 with h | h
        · intro e; exact hnm (by rw [h, e])
        · omega
      have hgrow : wc.drew.grownBy (putM (putM wc.drew mb L1 k1) mb (bumpAt j (cntE kind dir L + 1) L1) k1) (some mb) :=
        ⟨rfl, rfl, rfl, by rw [putM_size, putM_size]; exact Nat.le_refl _, fun k _ hk => by rw [putM_heap_far (fun e => hk (by rw [e])), putM_heap_far (fun e => hk (by rw [e]))]⟩
      refine ⟨rfl, g, cap, _, k1, ?_, hix2, hcv, fun c d h => (hcn c d h).trans (hcnt1 c d), ?_, ?_, hat2⟩
      · rw [putM_heap_far (Ne.symm hbm), putM_heap_far (Ne.symm hbm)]; exact hb2
      · exact (World.ownsRow.drew hown2).kept hgrow (.inr (by simp [Value.ownBlock, hgm]))
      · exact ((hkeep2.drew.mono (T := [b, mb] ++ ov.ownBlock.toList) (fun x hx _ => by rcases List.mem_append.1 hx with h | h; exact List.mem_append.2 (.inl (by simp at h; simp [h])); exact List.mem_append.2 (.inr h))).grown hgrow (fun k hk _ => by simp at hk; simp [hk]))
    have hwr : IntKind.i64.wrap (cntE kind dir L + 1) = cntE kind dir L + 1 := IntWalk.i64_in _ (by omega)
    clear hme hpm hlk2 hix hix1 hix2 hcnt1 hit hcv hcn hb2 hm2 hk2 hown2 hkeep2 hat2 e13
    refine wp_region_seq (fun wx : World => wx.cell? ⟨b, 13, none⟩ = some (.map (some mb)) ∧ wx.cell? ⟨w.heap.size, 0, none⟩ = some (.int .i64 kind) ∧ wx.cell? ⟨w.heap.size, 1, none⟩ = some (.int .i64 dir) ∧ (Instr.lookup 50 (.map (some mb)) (.agg #[.int .i64 kind, .int .i64 dir]) false).run Tryz.prog wx = .ok (.int .i64 (cntE kind dir L)) wx)
      [(0, 0), (1, 0), (2, 0), (3, 1), (4, 1), (5, 1), (6, 0), (7, 2), (8, 0), (9, 3)]
      [[9, 3], [9, 4], [9, 5]] (by kernel_rfl) (by kernel_rfl) (fun d _ _ _ _ h => by cases d <;> exact h) ?_
    simp only [picks, List.getD_cons_succ, List.getD_cons_zero]
    (refine seq_pure (v := ?_) (by rfl) ?_ ?_; rotate_left; focus (intro wq; first | (go_simp; done) | (go_simp; with_reducible rfl))); (try simp only [Act.put, List.setIfInBounds_toArray, List.set_cons_zero, List.set_cons_succ])
    (refine seq_pure (v := ?_) (by rfl) ?_ ?_; rotate_left; focus (intro wq; first | (go_simp; done) | (go_simp; with_reducible rfl))); (try simp only [Act.put, List.setIfInBounds_toArray, List.set_cons_zero, List.set_cons_succ])
    (refine seq_pure (v := ?_) (by rfl) ?_ ?_; rotate_left; focus (intro wq; first | (go_simp; done) | (go_simp; with_reducible rfl))); (try simp only [Act.put, List.setIfInBounds_toArray, List.set_cons_zero, List.set_cons_succ])
    (refine seq_read (v := ?_) hS (by rfl) ?_ ?_; rotate_left; focus (intro wq hSq; obtain ⟨hq1, hq2, hq3, hq4⟩ := hSq; first | (go_simp; done) | (go_simp; with_reducible rfl))); (try simp only [Act.put, List.setIfInBounds_toArray, List.set_cons_zero, List.set_cons_succ])
    (refine seq_read (v := ?_) hS (by rfl) ?_ ?_; rotate_left; focus (intro wq hSq; obtain ⟨hq1, hq2, hq3, hq4⟩ := hSq; first | (go_simp; done) | (go_simp; with_reducible rfl))); (try simp only [Act.put, List.setIfInBounds_toArray, List.set_cons_zero, List.set_cons_succ])
    (refine seq_read (v := ?_) hS (by rfl) ?_ ?_; rotate_left; focus (intro wq hSq; obtain ⟨hq1, hq2, hq3, hq4⟩ := hSq; first | (go_simp; done) | (go_simp; with_reducible rfl))); (try simp only [Act.put, List.setIfInBounds_toArray, List.set_cons_zero, List.set_cons_succ])
    (refine seq_pure (v := ?_) (by rfl) ?_ ?_; rotate_left; focus (intro wq; first | (go_simp; done) | (go_simp; with_reducible rfl))); (try simp only [Act.put, List.setIfInBounds_toArray, List.set_cons_zero, List.set_cons_succ])
    refine seq_act (fun K hK => ?_)
    go_simp
    have hS1 : (fun wx : World => wx.cell? ⟨b, 13, none⟩ = some (.map (some mb)) ∧ wx.cell? ⟨w.heap.size, 0, none⟩ = some (.int .i64 kind) ∧ wx.cell? ⟨w.heap.size, 1, none⟩ = some (.int .i64 dir) ∧ (Instr.lookup 50 (.map (some mb)) (.agg #[.int .i64 kind, .int .i64 dir]) false).run Tryz.prog wx = .ok (.int .i64 (cntE kind dir L)) wx) (putM wc.drew mb L1 k1) := HS2
    refine hK.out _ _ hS1 ?_
    (try simp only [Act.put, List.setIfInBounds_toArray, List.set_cons_zero, List.set_cons_succ])
    (refine seq_pure (v := ?_) (by rfl) ?_ ?_; rotate_left; focus (intro wq; first | (go_simp; done) | (go_simp; with_reducible rfl))); (try simp only [Act.put, List.setIfInBounds_toArray, List.set_cons_zero, List.set_cons_succ])
    refine seq_do (fun K hK => ?_)
    go_simp
    refine hK.out _ _ ?_
    (try simp only [Act.put, List.setIfInBounds_toArray, List.set_cons_zero, List.set_cons_succ])
    refine seq_nil ?_
    go_wp2_with fail
    go_end0
    exact HF.out

end Go.Proofs.Sess
namespace Go.Proofs.Sess
open Go Go.RowKit

/-- What a call may have turned: F, the blocks of a thing; F': its blocks behind the call: old ones of it, or new. -/
structure Mod (F F' : List Nat) (w w' : World) : Prop where
  keeps : Keeps F w w'
  grow : ∀ k ∈ F', k ∈ F ∨ w.heap.size ≤ k

theorem Mod.refl (F : List Nat) (w : World) : Mod F F w w := ⟨Keeps.refl _ _, fun _ h => .inl h⟩
theorem Mod.trans {F G H : List Nat} {a b c : World} (h : Mod F G a b) (k : Mod G H b c) : Mod F H a c :=
  ⟨h.keeps.trans k.keeps (fun x hx hl => (h.grow x hx).resolve_right (by omega)), fun x hx => by
    rcases k.grow x hx with h1 | h1
    · exact h.grow x h1
    · exact .inr (Nat.le_trans h.keeps.size h1)⟩
theorem Mod.keeps_then {F G : List Nat} {a b c : World} (h : Keeps [] a b) (k : Mod F G b c) : Mod F G a c :=
  ⟨(h.mono (by simp)).trans k.keeps (fun _ hx _ => hx), fun x hx => by
    rcases k.grow x hx with h1 | h1
    · exact .inl h1
    · exact .inr (Nat.le_trans h.size h1)⟩
theorem Mod.then_keeps {F G : List Nat} {a b c : World} (h : Mod F G a b) (k : Keeps [] b c) : Mod F G a c :=
  ⟨h.keeps.trans k (by simp), h.grow⟩
theorem Mod.not_mem {F F' : List Nat} {w w' : World} (h : Mod F F' w w') {k : Nat} (hk : k < w.heap.size) (hF : k ∉ F) : k ∉ F' := fun hm =>
  (h.grow k hm).elim hF (by omega)

/-- A buffer. -/
structure Buf where
  kind : Int
  dir : Int
  idx : Int
  data : ByteArray

def bufsV (l : List Buf) : List Value := l.flatMap fun x => bufV x.kind x.dir x.idx x.data

theorem bufsV_append (l m : List Buf) : bufsV (l ++ m) = bufsV l ++ bufsV m := by simp [bufsV]
theorem bufsV_one (x : Buf) : bufsV [x] = bufV x.kind x.dir x.idx x.data := by simp [bufsV]

/-- The counts behind one more. -/
def bump (f : Int → Int → Int) (k d : Int) : Int → Int → Int := fun a b => if a = k ∧ b = d then f k d + 1 else f a b

/-- A session of the program: its block b, its map's block mb, its list of buffers in block ob; cs: its cells, but for the list. -/
structure SessAt (w : World) (b mb : Nat) (ob : Option Nat) (cs : Array Value) (f : Int → Int → Int) (l : List Buf) : Prop where
  h13 : cs[13]? = some (.map (some mb))
  size : cs.size = 32
  idx : ∃ L clock, IdxAt w mb L clock ∧ ∀ a d, cntE a d L = f a d
  own : ∃ ov, w.heap[b]? = some (.cells (cs.setIfInBounds 30 ov) 59 (0, 0)) ∧ ov.ownBlock = ob ∧ w.ownsRow 0 39 4 ov l.length (bufsV l)
  ne : ob ≠ some b

theorem SessAt.lt {w : World} {b mb : Nat} {ob : Option Nat} {cs : Array Value} {f : Int → Int → Int} {l : List Buf} (h : SessAt w b mb ob cs f l) : b < w.heap.size := by
  obtain ⟨ov, h1, _, _⟩ := h.own
  exact lt_of_heap h1
theorem SessAt.ltm {w : World} {b mb : Nat} {ob : Option Nat} {cs : Array Value} {f : Int → Int → Int} {l : List Buf} (h : SessAt w b mb ob cs f l) : mb < w.heap.size := by
  obtain ⟨L, c, h1, _⟩ := h.idx
  exact lt_of_heap h1.heap
theorem SessAt.lto {w : World} {b mb : Nat} {ob : Option Nat} {cs : Array Value} {f : Int → Int → Int} {l : List Buf} (h : SessAt w b mb ob cs f l) {k : Nat} (hk : ob = some k) : k < w.heap.size := by
  obtain ⟨ov, h1, h2, h3⟩ := h.own
  exact (h3.lt k (by rw [h2, hk])).2
theorem SessAt.bm {w : World} {b mb : Nat} {ob : Option Nat} {cs : Array Value} {f : Int → Int → Int} {l : List Buf} (h : SessAt w b mb ob cs f l) : mb ≠ b := fun e => by
  obtain ⟨ov, h1, _, _⟩ := h.own
  obtain ⟨L, c, h2, _⟩ := h.idx
  have h2 := h2.heap
  rw [e, h1] at h2
  cases h2

/-- The blocks of a session. -/
def foot (b mb : Nat) (ob : Option Nat) : List Nat := [b, mb] ++ ob.toList

/-- A session stands as long as its blocks do. -/
theorem SessAt.keep {w w' : World} {b mb : Nat} {ob : Option Nat} {cs : Array Value} {f : Int → Int → Int} {l : List Buf} (h : SessAt w b mb ob cs f l) {S : List Nat} (hk : Keeps S w w') (hS : ∀ k ∈ foot b mb ob, k ∉ S) : SessAt w' b mb ob cs f l := by
  obtain ⟨L, c, h1, h2⟩ := h.idx
  obtain ⟨ov, g1, g2, g3⟩ := h.own
  refine ⟨h.h13, h.size, ⟨L, c, ⟨hk.heap h1.heap (hS mb (by simp [foot])), h1.born, h1.apart⟩, h2⟩, ⟨ov, hk.heap g1 (hS b (by simp [foot])), g2, hk.own g3 (fun k hk' => hS k ?_)⟩, h.ne⟩
  rw [← g2, hk']; simp [foot]

/-- A cell of the session, but that of the list. -/
theorem SessAt.cell {w : World} {b mb : Nat} {ob : Option Nat} {cs : Array Value} {f : Int → Int → Int} {l : List Buf} (h : SessAt w b mb ob cs f l) {o : Nat} {v : Value} (ho : o ≠ 30) (hv : cs[o]? = some v) : w.cell? ⟨b, o, none⟩ = some v := by
  obtain ⟨ov, h1, _, _⟩ := h.own
  exact cell_of_heap h1 (by rw [Array.getElem?_setIfInBounds_ne (Ne.symm ho)]; exact hv)
theorem SessAt.free {w : World} {b mb : Nat} {ob : Option Nat} {cs : Array Value} {f : Int → Int → Int} {l : List Buf} (h : SessAt w b mb ob cs f l) (o : Nat) : w.frozen? ⟨b, o, none⟩ = false := by
  obtain ⟨ov, h1, _, _⟩ := h.own
  exact free_of_heap h1

/-- A store into a cell of the session, but that of the list. -/
theorem SessAt.store {w : World} {b mb : Nat} {ob : Option Nat} {cs : Array Value} {f : Int → Int → Int} {l : List Buf} (h : SessAt w b mb ob cs f l) {o : Nat} (ho : o ≠ 30) (h13 : o ≠ 13) (v : Value) :
    SessAt (w.setCell ⟨b, o, none⟩ v) b mb ob (cs.setIfInBounds o v) f l := by
  obtain ⟨L, c, h1, h2⟩ := h.idx
  obtain ⟨ov, g1, g2, g3⟩ := h.own
  have hbm := h.bm
  refine ⟨by rw [Array.getElem?_setIfInBounds_ne h13]; exact h.h13, by simp [h.size], ⟨L, c, ⟨?_, h1.born, h1.apart⟩, h2⟩, ⟨ov, ?_, g2, ?_⟩, h.ne⟩
  · rw [heap_setCell_far hbm]; exact h1.heap
  · rw [heap_setCell_self g1, Array.setIfInBounds_comm _ _ (Ne.symm ho)]
  · exact g3.kept (row := some b) ⟨rfl, rfl, rfl, by simp [World.setCell], fun k _ hk => heap_setCell_far (fun e => hk (by rw [e])) _⟩ (.inr (by rw [g2]; exact h.ne))

/-- put, over SessAt. -/
def PutSess (w : World) (b mb : Nat) (ob : Option Nat) (cs : Array Value) (l m : List Buf) (g : Int → Int → Int) (e : Ending) (w' : World) : Prop :=
  e = .returned (.tuple #[]) ∧ ∃ ob', SessAt w' b mb ob' cs g (l ++ m) ∧ Mod (foot b mb ob) (foot b mb ob') w w'

theorem put_sess (w : World) (b mb : Nat) (ob : Option Nat) (cs : Array Value) (f : Int → Int → Int) (l : List Buf) (kind dir : Int) (s : ByteArray)
    (h : SessAt w b mb ob cs f l) (hn : l.length < 1000000) (hc0 : 0 ≤ f kind dir) (hc1 : f kind dir < 1000000) :
    Calls Tryz.prog 36 #[.pointer (some ⟨b, 0, none⟩), .int .i64 kind, .int .i64 dir, .string s] w (PutSess w b mb ob cs l [⟨kind, dir, f kind dir, cutS s⟩] (bump f kind dir)) := by
  obtain ⟨L, c, h1, h2⟩ := h.idx
  obtain ⟨ov, g1, g2, g3⟩ := h.own
  have hsz := h.size
  refine (put_any w b mb (cs.setIfInBounds 30 ov) L c ov l.length (bufsV l) kind dir s g1 (by rw [Array.getElem?_setIfInBounds_ne (by omega)]; exact h.h13) (by rw [Array.getElem?_setIfInBounds_self_of_lt (by omega)]) h1 g3 hn (by rw [g2]; exact h.ne) (by rw [h2]; exact hc0) (by rw [h2]; exact hc1)).mono ?_
  rintro e w' ⟨rfl, g, cap, L', c', k1, k2, k3, k4, k5, k6, k7⟩
  have hlo : ∀ k, ov.ownBlock = some k → k < w.heap.size := fun k hk => (g3.lt k hk).2
  have hgb : g ≠ b := by
    rcases k7 with k7 | k7
    · intro e; exact h.ne (by rw [← g2, k7, e])
    · have := h.lt; omega
  refine ⟨rfl, some g, ⟨h.h13, h.size, ⟨L', c', k2, fun a d => ?_⟩, ⟨.slice (some ⟨g, 0, none⟩) (l.length + 1) cap, ?_, rfl, ?_⟩, by simpa using hgb⟩, ?_, ?_⟩
  · unfold bump
    split
    · rename_i e; rw [e.1, e.2, k3, h2]
    · rename_i e; rw [k4 a d e, h2]
  · rw [k1, Array.setIfInBounds_setIfInBounds]
  · rw [h2] at k5
    rw [bufsV_append, bufsV_one, List.length_append]
    exact k5
  · rw [g2] at k6; exact k6
  · intro k hk
    simp only [foot, List.mem_append, List.mem_cons, List.not_mem_nil, or_false, Option.mem_toList] at hk ⊢
    rcases hk with hk | hk
    · exact .inl (.inl hk)
    · have hkg : k = g := by simpa using hk.symm
      subst hkg
      rcases k7 with k7 | k7
      · exact .inl (.inr (by rw [← g2]; exact k7))
      · exact .inr k7

set_option maxHeartbeats 400000 in
theorem find_sess (w : World) (b mb : Nat) (ob : Option Nat) (cs : Array Value) (f : Int → Int → Int) (l : List Buf) (dir : Int) (s : ByteArray)
    (h : SessAt w b mb ob cs f l) (hn : l.length < 1000000) (hc0 : 0 ≤ f 18 dir) (hc1 : f 18 dir < 1000000) :
    Calls Tryz.prog 39 #[.pointer (some ⟨b, 0, none⟩), .int .i64 dir, .string s] w (PutSess w b mb ob cs l [⟨18, dir, f 18 dir, cutS s⟩] (bump f 18 dir)) := by
  have H := Lib.hid h
  clear h
  go_enter Tryz.func39, Tryz.ntmps39
  go_wp2_with (go_at_call 36; refine (put_sess _ _ _ _ _ _ _ _ _ _ H.out hn hc0 hc1).mono ?_; rintro e w' ⟨rfl, hq⟩; have HQ := Lib.hid hq; clear hq)
  go_end0
  exact ⟨rfl, HQ.out⟩

end Go.Proofs.Sess
namespace Go.Proofs.Sess
open Go Go.RowKit

/-- Can a direction be fed? (e1, e2: has it ended?) -/
def usableB (dir : Int) (e1 e2 : Bool) : Bool := (dir == 1 && !e1) || (dir == 2 && !e2)

theorem usableB_spec {dir : Int} {e1 e2 : Bool} : usableB dir e1 e2 = true ↔ (dir = 1 ∧ e1 = false) ∨ (dir = 2 ∧ e2 = false) := by
  simp [usableB]

set_option maxHeartbeats 400000 in
theorem usable_nil (dir : Int) (w : World) : Calls Tryz.prog 31 #[.pointer none, .int .i64 dir] w fun e w' => e = .returned (.bool false) ∧ w = w' := by
  go_enter Tryz.func31, Tryz.ntmps31
  go_wp2
  go_ret
  exact ⟨rfl, rfl⟩

set_option maxRecDepth 100000 in
set_option maxHeartbeats 800000 in
theorem usable_sess (w : World) (b mb : Nat) (ob : Option Nat) (cs : Array Value) (f : Int → Int → Int) (l : List Buf) (dir : Int) (e1 e2 : Bool)
    (h : SessAt w b mb ob cs f l) (h22 : cs[22]? = some (.bool e1)) (h27 : cs[27]? = some (.bool e2)) :
    Calls Tryz.prog 31 #[.pointer (some ⟨b, 0, none⟩), .int .i64 dir] w fun e w' => e = .returned (.bool (usableB dir e1 e2)) ∧ w = w' := by
  have c13 := h.cell (by decide) h.h13
  have c22 := h.cell (by decide) h22
  have c27 := h.cell (by decide) h27
  clear h h22 h27
  have hm := fun (w : World) (r : Option Nat) => run_neq_map_nil (P := Tryz.prog) w 50 111 3 r Tryz.underlying50
  by_cases h1 : dir = 1
  · subst h1
    go_enter Tryz.func31, Tryz.ntmps31
    go_wp2
    go_ret
    exact ⟨by simp [usableB], rfl⟩
  · by_cases h2 : dir = 2
    · subst h2
      go_enter Tryz.func31, Tryz.ntmps31
      go_wp2
      go_ret
      exact ⟨by simp [usableB], rfl⟩
    · have e1' : (dir == 1) = false := by simpa using h1
      have e2' : (dir == 2) = false := by simpa using h2
      go_enter Tryz.func31, Tryz.ntmps31
      go_wp2
      go_ret
      exact ⟨by simp [usableB, e1', e2'], rfl⟩
end Go.Proofs.Sess
namespace Go.Proofs.Sess
open Go Go.RowKit

/-- What a session is told to report. -/
structure Ev where
  kind : Int
  dir : Int
  data : ByteArray

def evF (f : Int → Int → Int) : List Ev → Int → Int → Int
  | [] => f
  | x :: r => evF (bump f x.kind x.dir) r
def evB (f : Int → Int → Int) : List Ev → List Buf
  | [] => []
  | x :: r => ⟨x.kind, x.dir, f x.kind x.dir, cutS x.data⟩ :: evB (bump f x.kind x.dir) r

theorem evF_append (m : List Ev) : ∀ (f : Int → Int → Int) (l : List Ev), evF f (l ++ m) = evF (evF f l) m
  | _, [] => rfl
  | _, _ :: r => evF_append m _ r
theorem evB_append (m : List Ev) : ∀ (f : Int → Int → Int) (l : List Ev), evB f (l ++ m) = evB f l ++ evB (evF f l) m
  | _, [] => rfl
  | f, x :: r => by simp [evB, evF, evB_append m _ r]
theorem evB_length : ∀ (f : Int → Int → Int) (l : List Ev), (evB f l).length = l.length
  | _, [] => rfl
  | _, x :: r => by simp [evB, evB_length _ r]

/-- All counts lie between 0 and N. -/
def CntLe (f : Int → Int → Int) (N : Int) : Prop := ∀ a b, 0 ≤ f a b ∧ f a b ≤ N
theorem CntLe.bump {f : Int → Int → Int} {N : Int} (h : CntLe f N) (k d : Int) : CntLe (bump f k d) (N + 1) := fun a b => by
  unfold Sess.bump
  have h1 := h a b
  have h2 := h k d
  split <;> omega
theorem CntLe.ev {N : Int} : ∀ {f : Int → Int → Int} (l : List Ev), CntLe f N → CntLe (evF f l) (N + l.length)
  | f, [], h => by simpa [evF] using h
  | f, x :: r, h => by
    have := CntLe.ev r (h.bump x.kind x.dir)
    simp only [evF, List.length_cons]
    rw [show (N + ((r.length + 1 : Nat) : Int)) = N + 1 + (r.length : Int) by omega]
    exact this

/-- What a call of the session's own leaves: events reported. -/
def Told (w : World) (b mb : Nat) (ob : Option Nat) (cs : Array Value) (f : Int → Int → Int) (l : List Buf) (es : List Ev) (w' : World) : Prop :=
  ∃ ob', SessAt w' b mb ob' cs (evF f es) (l ++ evB f es) ∧ Mod (foot b mb ob) (foot b mb ob') w w'

theorem Told.nil {w : World} {b mb : Nat} {ob : Option Nat} {cs : Array Value} {f : Int → Int → Int} {l : List Buf} (h : SessAt w b mb ob cs f l) : Told w b mb ob cs f l [] w :=
  ⟨ob, by simpa [evF, evB] using h, Mod.refl _ _⟩

theorem Told.then {w w1 w2 : World} {b mb : Nat} {ob : Option Nat} {cs : Array Value} {f : Int → Int → Int} {l : List Buf} {es : List Ev} {x : Ev} {ob1 : Option Nat}
    (hm : Mod (foot b mb ob) (foot b mb ob1) w w1) {e : Ending} (h2 : PutSess w1 b mb ob1 cs (l ++ evB f es) [⟨x.kind, x.dir, evF f es x.kind x.dir, cutS x.data⟩] (bump (evF f es) x.kind x.dir) e w2) : Told w b mb ob cs f l (es ++ [x]) w2 := by
  obtain ⟨_, ob', h3, h4⟩ := h2
  refine ⟨ob', ?_, hm.trans h4⟩
  rw [evF_append, evB_append, ← List.append_assoc]
  exact h3

theorem bufsV_get : ∀ (l : List Buf) (k j : Nat) (x : Buf), l[k]? = some x → j < 4 → (bufsV l)[k * 4 + j]? = (bufV x.kind x.dir x.idx x.data)[j]?
  | [], k, j, x, h, _ => by simp at h
  | y :: l, 0, j, x, h, hj => by
    simp at h; subst h
    have e : bufsV (y :: l) = bufV y.kind y.dir y.idx y.data ++ bufsV l := rfl
    rw [e, List.getElem?_append_left (by simp [bufV]; omega)]
    simp
  | y :: l, k + 1, j, x, h, hj => by
    have e : bufsV (y :: l) = bufV y.kind y.dir y.idx y.data ++ bufsV l := rfl
    rw [e, List.getElem?_append_right (by simp [bufV]; omega)]
    rw [show (k + 1) * 4 + j - (bufV y.kind y.dir y.idx y.data).length = k * 4 + j by simp [bufV]; omega]
    exact bufsV_get l k j x (by simpa using h) hj

/-- The cells of buffer k of a row of buffers. -/
theorem row_cells {w : World} {v : Value} {bs : List Buf} (h : w.ownsRow 0 39 4 v bs.length (bufsV bs)) {g k : Nat} {x : Buf} (hg : v.ownBlock = some g) (hk : bs[k]? = some x) :
    w.cell? ⟨g, k * 4, none⟩ = some (.int .i64 x.kind) ∧ w.cell? ⟨g, k * 4 + 1, none⟩ = some (.int .i64 x.dir) ∧ w.cell? ⟨g, k * 4 + 2, none⟩ = some (.int .i64 x.idx) ∧ w.cell? ⟨g, k * 4 + 3, none⟩ = some (.string x.data) := by
  have hc := h.cells hg
  have add : ∀ j, (⟨g, 0, none⟩ : Addr).add j = ⟨g, j, none⟩ := fun j => by unfold Addr.add; split <;> simp_all
  have get := fun j hj => bufsV_get bs k j x hk hj
  refine ⟨?_, ?_, ?_, ?_⟩
  · rw [← add]; exact hc _ _ (by have := get 0 (by omega); simpa [bufV] using this)
  · rw [← add]; exact hc _ _ (by have := get 1 (by omega); simpa [bufV] using this)
  · rw [← add]; exact hc _ _ (by have := get 2 (by omega); simpa [bufV] using this)
  · rw [← add]; exact hc _ _ (by have := get 3 (by omega); simpa [bufV] using this)

def evOf (kind dir : Int) (bs : List Buf) : List Ev := bs.map fun x => ⟨kind, dir, x.data⟩

/-- The state of the loop of windows. -/
def WinRel (w : World) (b mb : Nat) (ob : Option Nat) (cs : Array Value) (f : Int → Int → Int) (l : List Buf) (kind dir : Int) (bs : List Buf) (k : Nat) (wr : World) : Prop :=
  Told w b mb ob cs f l (evOf kind dir (bs.take k)) wr

set_option maxRecDepth 100000 in
set_option maxHeartbeats 1600000 in
theorem windows_sess (w : World) (b mb : Nat) (ob : Option Nat) (cs : Array Value) (f : Int → Int → Int) (l : List Buf) (kind dir : Int) (v : Value) (bs : List Buf) (N : Int)
    (h : SessAt w b mb ob cs f l) (hv : w.ownsRow 0 39 4 v bs.length (bufsV bs)) (hg : ∀ g, v.ownBlock = some g → g ∉ foot b mb ob) (hf : CntLe f N) (hN : N + bs.length < 1000000) (hl : l.length + bs.length < 1000000) :
    Calls Tryz.prog 55 #[.pointer (some ⟨b, 0, none⟩), .int .i64 kind, .int .i64 dir, v] w fun e w' => e = .returned (.tuple #[]) ∧ Told w b mb ob cs f l (evOf kind dir bs) w' := by
  obtain ⟨a, cap, hvs, hva⟩ : ∃ a cap, v = .slice a bs.length cap ∧ (0 < bs.length → ∃ g, a = some ⟨g, 0, none⟩) := by
    rcases hv.2 with ⟨hvn, hn0⟩ | ⟨g, cap, cur, hvs, _⟩
    · exact ⟨none, 0, by rw [hvn, hn0], fun h => by omega⟩
    · exact ⟨_, _, hvs, fun _ => ⟨g, rfl⟩⟩
  subst hvs
  have HR : ∀ k, k < bs.length → ∃ g x, a = some ⟨g, 0, none⟩ ∧ bs[k]? = some x ∧ g ∉ foot b mb ob ∧ g < w.heap.size ∧
      w.cell? ⟨g, k * 4, none⟩ = some (.int .i64 x.kind) ∧ w.cell? ⟨g, k * 4 + 1, none⟩ = some (.int .i64 x.dir) ∧ w.cell? ⟨g, k * 4 + 2, none⟩ = some (.int .i64 x.idx) ∧ w.cell? ⟨g, k * 4 + 3, none⟩ = some (.string x.data) := fun k hk => by
    obtain ⟨g, rfl⟩ := hva (by omega)
    have hx : bs[k]? = some bs[k] := List.getElem?_eq_getElem hk
    obtain ⟨h1, h2, h3, h4⟩ := row_cells hv (g := g) rfl hx
    exact ⟨g, bs[k], rfl, hx, hg g rfl, World.block_lt_of_cell? w _ h1, h1, h2, h3, h4⟩
  have HRH := Lib.hid HR
  have H0 := Lib.hid (Told.nil h)
  have HF := Lib.hid hf
  clear h hf hv hg hva HR
  go_enter Tryz.func55, Tryz.ntmps55
  go_wp2_with fail
  go_loopw [12] (fun i wr => ∃ k : Nat, k ≤ bs.length ∧ i = .int .i64 k ∧ WinRel w b mb ob cs f l kind dir bs k wr) (fun i _ => bs.length - (intOf i).toNat)
  case atStart => exact ⟨0, Nat.zero_le _, rfl, H0.out⟩
  case round =>
    obtain ⟨k, hk, rfl, hrel⟩ := hrel
    by_cases hlt : k < bs.length
    · obtain ⟨g, x, rfl, hx, hgF, hgl, c0, c1, c2, c3⟩ := HRH.out k hlt
      obtain ⟨ob1, hs1, hm1⟩ := hrel
      have d0 := hm1.keeps.cell c0 hgF
      have d1 := hm1.keeps.cell c1 hgF
      have d2 := hm1.keeps.cell c2 hgF
      have d3 := hm1.keeps.cell c3 hgF
      clear c0 c1 c2 c3
      have HS1 := Lib.hid hs1
      have HM1 := Lib.hid hm1
      have HX := Lib.hid hx
      clear hs1 hm1 hx
      go_wp2_with fail
      have hlen : (evOf kind dir (bs.take k)).length = k := by simp [evOf]; omega
      have hcn := CntLe.ev (evOf kind dir (bs.take k)) HF.out kind dir
      refine (put_sess _ b mb ob1 cs _ _ kind dir _ (HS1.out.keep (S := []) ((Keeps.refl _ _).alloc _) (by simp)) (by rw [List.length_append, evB_length, hlen]; omega) hcn.1 (by rw [hlen] at hcn; omega)).mono ?_
      rintro e w2 ⟨rfl, ob2, hs2, hm2⟩
      have HT : Hid (WinRel w b mb ob cs f l kind dir bs (k + 1) w2) := by
        show Told w b mb ob cs f l (evOf kind dir (bs.take (k + 1))) w2
        have e1 : evOf kind dir (bs.take (k + 1)) = evOf kind dir (bs.take k) ++ [⟨kind, dir, x.data⟩] := by
          rw [List.take_add_one, HX.out]; simp [evOf]
        rw [e1]
        exact Told.then (e := .returned (.tuple #[])) ((HM1.out).trans ⟨((Keeps.refl _ _).alloc _), fun k h => .inl h⟩) (w1 := wr.alloc (.cells #[.int .i64 x.kind, .int .i64 x.dir, .int .i64 x.idx, .string x.data] 39)) ⟨rfl, ob2, hs2, hm2⟩
      clear hs2 hm2 hcn hlen
      go_wp2_with fail
      go_roundw
      case rel => exact ⟨k + 1, by omega, by go_num, HT.out⟩
      case measure => simp [intOf]; omega
    · have hkn : k = bs.length := by omega
      subst hkn
      have HT := Lib.hid hrel
      clear hrel
      go_wp2_with fail
      go_end0
      have := HT.out
      rw [WinRel, List.take_length] at this
      exact ⟨rfl, this⟩
end Go.Proofs.Sess
namespace Go.Proofs.Sess
open Go Go.RowKit

set_option maxRecDepth 100000 in
set_option maxHeartbeats 800000 in
theorem stream_sess (w : World) (b mb : Nat) (ob : Option Nat) (cs : Array Value) (f : Int → Int → Int) (l : List Buf) (dir app : Int) (off : Bool) (v : Value) (bs : List Buf) (N : Int)
    (h : SessAt w b mb ob cs f l) (h1 : cs[1]? = some (.int .i64 app)) (h9 : cs[9]? = some (.bool off)) (hv : w.ownsRow 0 39 4 v bs.length (bufsV bs)) (hg : ∀ g, v.ownBlock = some g → g ∉ foot b mb ob) (hf : CntLe f N) (hN : N + bs.length < 1000000) (hl : l.length + bs.length < 1000000) :
    Calls Tryz.prog 32 #[.pointer (some ⟨b, 0, none⟩), .int .i64 dir, v] w fun e w' => e = .returned (.tuple #[]) ∧ Told w b mb ob cs f l (if app = 0 ∧ off = true then [] else evOf 1 dir bs) w' := by
  have c1 := h.cell (by decide) h1
  have c9 := h.cell (by decide) h9
  have H := Lib.hid h
  have HV := Lib.hid hv
  have HG := Lib.hid hg
  have HF := Lib.hid hf
  clear h hv hg hf h1 h9
  by_cases ha : app = 0
  · subst ha
    cases off
    · go_enter Tryz.func32, Tryz.ntmps32
      go_wp2_with (go_at_call 55; refine (windows_sess _ b mb ob cs f l 1 dir v bs N H.out HV.out HG.out HF.out hN hl).mono ?_; rintro e w' ⟨rfl, hq⟩; have HQ := Lib.hid hq; clear hq)
      go_end0
      exact ⟨rfl, by simpa using HQ.out⟩
    · go_enter Tryz.func32, Tryz.ntmps32
      go_wp2_with fail
      go_end0
      exact ⟨rfl, by simpa using Told.nil H.out⟩
  · have ha' : (app != 0) = true := by simpa using ha
    go_enter Tryz.func32, Tryz.ntmps32
    go_wp2_with (go_at_call 55; refine (windows_sess _ b mb ob cs f l 1 dir v bs N H.out HV.out HG.out HF.out hN hl).mono ?_; rintro e w' ⟨rfl, hq⟩; have HQ := Lib.hid hq; clear hq)
    go_end0
    exact ⟨rfl, by simpa [ha] using HQ.out⟩

/-- The list is taken. -/
def Taken (w : World) (b mb : Nat) (ob : Option Nat) (cs : Array Value) (f : Int → Int → Int) (l : List Buf) (e : Ending) (w' : World) : Prop :=
  ∃ v, e = .returned v ∧ SessAt w' b mb none cs f [] ∧ w'.ownsRow 0 39 4 v l.length (bufsV l) ∧ v.ownBlock = ob ∧ Keeps [b] w w'

theorem take_mid {w : World} {b mb : Nat} {ob : Option Nat} {cs : Array Value} {f : Int → Int → Int} {l : List Buf} (h : SessAt w b mb ob cs f l) :
    ∃ ov, w.cell? ⟨b, 30, none⟩ = some ov ∧ (∃ a c, ov = .slice a l.length c) ∧ Taken w b mb ob cs f l (.returned ov) (w.setCell ⟨b, 30, none⟩ (.slice none 0 0)) := by
  obtain ⟨L, c, h1, h2⟩ := h.idx
  obtain ⟨ov, g1, g2, g3⟩ := h.own
  have hsz := h.size
  have hbm := h.bm
  have hkb : Keeps [b] w (w.setCell ⟨b, 30, none⟩ (.slice none 0 0)) := (Keeps.refl _ w).setCell (by simp) _
  refine ⟨ov, cell_of_heap g1 (by rw [Array.getElem?_setIfInBounds_self_of_lt (by omega)]), ?_, ov, rfl, ⟨h.h13, h.size, ⟨L, c, ⟨?_, h1.born, h1.apart⟩, h2⟩, ⟨.slice none 0 0, ?_, rfl, World.ownsRow_nil _ _ _ _⟩, by simp⟩, ?_, g2, hkb⟩
  · rcases g3.2 with ⟨hvn, hn0⟩ | ⟨g, cap, cur, hvs, _⟩
    · exact ⟨none, 0, by rw [hvn, hn0]⟩
    · exact ⟨_, _, hvs⟩
  · rw [heap_setCell_far hbm]; exact h1.heap
  · rw [heap_setCell_self g1, Array.setIfInBounds_setIfInBounds]
  · exact hkb.own g3 (fun k hk => by
      have := h.ne
      rw [← g2, hk] at this
      simpa using this)

set_option maxHeartbeats 800000 in
theorem take_sess (w : World) (b mb : Nat) (ob : Option Nat) (cs : Array Value) (f : Int → Int → Int) (l : List Buf) (h : SessAt w b mb ob cs f l) :
    Calls Tryz.prog 35 #[.pointer (some ⟨b, 0, none⟩)] w (Taken w b mb ob cs f l) := by
  obtain ⟨ov, c30, ⟨a, c, rfl⟩, ht⟩ := take_mid h
  have f30 := h.free 30
  have HT := Lib.hid ht
  clear h ht
  go_enter Tryz.func35, Tryz.ntmps35
  go_wp2
  go_ret
  exact HT.out

end Go.Proofs.Sess
namespace Go.Proofs.Sess
open Go Go.RowKit

set_option maxHeartbeats 400000 in
theorem app_nil (w : World) : Calls Tryz.prog 19 #[.pointer none] w fun e w' => e = .returned (.int .i64 0) ∧ w = w' := by
  go_enter Tryz.func19, Tryz.ntmps19
  go_wp2
  go_ret
  exact ⟨rfl, rfl⟩

set_option maxHeartbeats 400000 in
theorem app_sess (w : World) (b mb : Nat) (ob : Option Nat) (cs : Array Value) (f : Int → Int → Int) (l : List Buf) (app : Int)
    (h : SessAt w b mb ob cs f l) (h1 : cs[1]? = some (.int .i64 app)) : Calls Tryz.prog 19 #[.pointer (some ⟨b, 0, none⟩)] w fun e w' => e = .returned (.int .i64 app) ∧ w = w' := by
  have c1 := h.cell (by decide) h1
  clear h h1
  go_enter Tryz.func19, Tryz.ntmps19
  go_wp2
  go_ret
  exact ⟨rfl, rfl⟩

set_option maxHeartbeats 400000 in
theorem note_nil (dir : Int) (s : ByteArray) (w : World) : Calls Tryz.prog 18 #[.pointer none, .int .i64 dir, .string s] w fun e w' => e = .returned (.slice none 0 0) ∧ w = w' := by
  go_enter Tryz.func18, Tryz.ntmps18
  go_wp2_with (go_at_call 31; refine (usable_nil dir _).mono ?_; rintro e w' ⟨rfl, rfl⟩)
  go_ret
  exact ⟨rfl, rfl⟩

/-- What a call of a session leaves: its list, taken; the session with nothing to tell. -/
def Gave (w : World) (b mb : Nat) (ob : Option Nat) (cs : Array Value) (f : Int → Int → Int) (es : List Ev) (e : Ending) (w' : World) : Prop :=
  ∃ v, e = .returned v ∧ SessAt w' b mb none cs (evF f es) [] ∧ w'.ownsRow 0 39 4 v es.length (bufsV (evB f es)) ∧ (∀ k, v.ownBlock = some k → k ∉ [b, mb] ∧ (ob = some k ∨ w.heap.size ≤ k)) ∧ Mod (foot b mb ob) (foot b mb none) w w'

theorem gave_of_taken {w w1 w2 : World} {b mb : Nat} {ob ob1 : Option Nat} {cs : Array Value} {f : Int → Int → Int} {es : List Ev} {e : Ending}
    (hs : SessAt w1 b mb ob1 cs (evF f es) (evB f es)) (hm : Mod (foot b mb ob) (foot b mb ob1) w w1) (ht : Taken w1 b mb ob1 cs (evF f es) (evB f es) e w2) : Gave w b mb ob cs f es e w2 := by
  obtain ⟨v, h1, h2, h3, h4, h5⟩ := ht
  rw [evB_length] at h3
  refine ⟨v, h1, h2, h3, fun k hk => ⟨?_, ?_⟩, ?_⟩
  · rw [h4] at hk
    have := hs.ne
    obtain ⟨ov, g1, g2, g3⟩ := hs.own
    obtain ⟨L, c, i1, _⟩ := hs.idx
    have hm := own_ne_map g3 i1.heap
    rw [g2, hk] at hm
    rw [hk] at this
    simp at this hm ⊢
    exact ⟨this, hm⟩
  · rw [h4] at hk
    have := hm.grow k (by simp [foot, hk])
    simp [foot] at this
    obtain ⟨ov, g1, g2, g3⟩ := hs.own
    obtain ⟨L, c, i1, _⟩ := hs.idx
    have hmm := own_ne_map g3 i1.heap
    have hnb := hs.ne
    rw [g2, hk] at hmm
    rw [hk] at hnb
    simp at hmm hnb
    rcases this with (h | h | h) | h
    · exact absurd h hnb
    · exact absurd h hmm
    · exact .inl h
    · exact .inr h
  · refine ⟨hm.keeps.trans h5 (by simp [foot]), fun k hk => ?_⟩
    simp [foot] at hk
    rcases hk with hk | hk <;> simp [foot, hk]

theorem toList_eq (s : ByteArray) : s.toList = s.data.toList := ByteArray.toList_eq s

theorem toList_nil {s : ByteArray} (h : s.size = 0) : s.toList = [] := by
  rw [toList_eq]
  have : s.data.toList.length = 0 := by simpa using h
  exact List.length_eq_zero_iff.1 this
theorem toList_some {s : ByteArray} (h : s.size ≠ 0) : s.toList.isEmpty = false := by
  rw [toList_eq]
  have : s.data.toList.length ≠ 0 := by simpa using h
  cases hl : s.data.toList with
  | nil => rw [hl] at this; simp at this
  | cons a l => rfl

set_option maxHeartbeats 800000 in
theorem note_no (w : World) (b mb : Nat) (ob : Option Nat) (cs : Array Value) (f : Int → Int → Int) (l : List Buf) (dir : Int) (s : ByteArray) (e1 e2 : Bool)
    (h : SessAt w b mb ob cs f l) (h22 : cs[22]? = some (.bool e1)) (h27 : cs[27]? = some (.bool e2)) (hno : usableB dir e1 e2 = false ∨ s.size = 0) :
    Calls Tryz.prog 18 #[.pointer (some ⟨b, 0, none⟩), .int .i64 dir, .string s] w fun e w' => e = .returned (.slice none 0 0) ∧ w = w' := by
  have H := Lib.hid h
  have H22 := Lib.hid h22
  have H27 := Lib.hid h27
  clear h h22 h27
  cases hu : usableB dir e1 e2
  · go_enter Tryz.func18, Tryz.ntmps18
    go_wp2_with (go_at_call 31; refine (usable_sess _ b mb ob cs f l dir e1 e2 H.out H22.out H27.out).mono ?_; rintro e w' ⟨rfl, rfl⟩)
    go_ret
    exact ⟨rfl, rfl⟩
  · have hs' := toList_nil (hno.resolve_left (by rw [hu]; simp))
    clear hno
    go_enter Tryz.func18, Tryz.ntmps18
    go_wp2_with (go_at_call 31; refine (usable_sess _ b mb ob cs f l dir e1 e2 H.out H22.out H27.out).mono ?_; rintro e w' ⟨rfl, rfl⟩)
    go_ret
    exact ⟨rfl, rfl⟩

set_option maxHeartbeats 800000 in
theorem note_yes (w : World) (b mb : Nat) (ob : Option Nat) (cs : Array Value) (f : Int → Int → Int) (dir : Int) (s : ByteArray) (e1 e2 : Bool) (N : Int)
    (h : SessAt w b mb ob cs f []) (h22 : cs[22]? = some (.bool e1)) (h27 : cs[27]? = some (.bool e2)) (hf : CntLe f N) (hN : N < 1000000) (hu : usableB dir e1 e2 = true) (hs : s.size ≠ 0) :
    Calls Tryz.prog 18 #[.pointer (some ⟨b, 0, none⟩), .int .i64 dir, .string s] w (Gave w b mb ob cs f [⟨18, dir, s⟩]) := by
  have hc := hf 18 dir
  have hc2 : f 18 dir < 1000000 := by omega
  have hs' := toList_some hs
  have H := Lib.hid h
  have H22 := Lib.hid h22
  have H27 := Lib.hid h27
  clear h h22 h27 hf hs
  go_enter Tryz.func18, Tryz.ntmps18
  go_wp2_with (first
    | (go_at_call 31; refine (usable_sess _ b mb ob cs f [] dir e1 e2 H.out H22.out H27.out).mono ?_; rintro e w' ⟨rfl, rfl⟩)
    | (go_at_call 39; refine (find_sess _ b mb ob cs f [] dir s H.out (by simp) hc.1 hc2).mono ?_; rintro e w1 ⟨rfl, ob1, hs1, hm1⟩; have HS1 := Lib.hid hs1; have HM1 := Lib.hid hm1; clear hs1 hm1)
    | (go_at_call 35; refine (take_sess _ b mb _ cs _ _ HS1.out).mono ?_; rintro e w2 ht; have HT := Lib.hid (gave_of_taken (es := [⟨18, dir, s⟩]) HS1.out HM1.out ht); obtain ⟨v, rfl, _⟩ := ht))
  go_ret
  exact HT.out

set_option maxHeartbeats 400000 in
theorem off_nil (k : Int) (o : Bool) (w : World) : Calls Tryz.prog 25 #[.pointer none, .int .i64 k, .bool o] w fun e w' => e = .returned (.tuple #[]) ∧ w = w' := by
  go_enter Tryz.func25, Tryz.ntmps25
  go_wp2
  go_end0
  exact ⟨rfl, rfl⟩

/-- The cells behind a feature turned. -/
def offC (cs : Array Value) (k : Int) (o : Bool) : Array Value := if k = 1 ∨ k = 2 ∨ k = 3 then cs.setIfInBounds (6 + k.toNat) (.bool o) else cs

set_option maxRecDepth 100000 in
set_option maxHeartbeats 800000 in
theorem off_sess (w : World) (b mb : Nat) (ob : Option Nat) (cs : Array Value) (f : Int → Int → Int) (l : List Buf) (k : Int) (o : Bool) (o1 o2 o3 : Value)
    (h : SessAt w b mb ob cs f l) (h7 : cs[7]? = some o1) (h8 : cs[8]? = some o2) (h9 : cs[9]? = some o3) :
    Calls Tryz.prog 25 #[.pointer (some ⟨b, 0, none⟩), .int .i64 k, .bool o] w fun e w' => e = .returned (.tuple #[]) ∧ SessAt w' b mb ob (offC cs k o) f l ∧ Mod (foot b mb ob) (foot b mb ob) w w' := by
  have c7 := h.cell (by decide) h7
  have c8 := h.cell (by decide) h8
  have c9 := h.cell (by decide) h9
  have f7 := h.free 7
  have f8 := h.free 8
  have f9 := h.free 9
  have hst : ∀ o', o' ≠ 30 → o' ≠ 13 → SessAt (w.setCell ⟨b, o', none⟩ (.bool o)) b mb ob (cs.setIfInBounds o' (.bool o)) f l ∧ Mod (foot b mb ob) (foot b mb ob) w (w.setCell ⟨b, o', none⟩ (.bool o)) := fun o' h1 h2 =>
    ⟨h.store h1 h2 _, (Keeps.refl _ _).setCell (by simp [foot]) _, fun _ h => .inl h⟩
  have HST := Lib.hid hst
  have H := Lib.hid h
  clear h hst h7 h8 h9
  by_cases h1 : k = 1
  · subst h1
    go_enter Tryz.func25, Tryz.ntmps25
    go_wp2
    go_end0
    exact ⟨rfl, HST.out 7 (by decide) (by decide)⟩
  · by_cases h2 : k = 2
    · subst h2
      go_enter Tryz.func25, Tryz.ntmps25
      go_wp2
      go_end0
      exact ⟨rfl, HST.out 8 (by decide) (by decide)⟩
    · by_cases h3 : k = 3
      · subst h3
        go_enter Tryz.func25, Tryz.ntmps25
        go_wp2
        go_end0
        exact ⟨rfl, HST.out 9 (by decide) (by decide)⟩
      · have hoc : offC cs k o = cs := by unfold offC; rw [if_neg (by omega)]
        have HO := Lib.hid hoc
        clear hoc
        by_cases h4 : 1 ≤ k
        · have h5 : ¬ k ≤ 3 := by omega
          go_enter Tryz.func25, Tryz.ntmps25
          go_wp2
          go_end0
          exact ⟨rfl, by rw [HO.out]; exact H.out, Mod.refl _ _⟩
        · go_enter Tryz.func25, Tryz.ntmps25
          go_wp2
          go_end0
          exact ⟨rfl, by rw [HO.out]; exact H.out, Mod.refl _ _⟩

end Go.Proofs.Sess
