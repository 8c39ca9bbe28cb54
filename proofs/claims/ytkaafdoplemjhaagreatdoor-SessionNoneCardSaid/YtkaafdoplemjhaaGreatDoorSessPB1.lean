/- A part of the proof that a nil session yields nothing (SessionNone). Its contents: contracts of functions of the program, each stated with its premises. -/
import Derived.Test.YtkaafdoplemjhaaGreatDoorSessPA8
import Derived.Test.YtkaafdoplemjhaaGreatDoorSessPB0
import Derived.Deep.Cut
namespace Go.Proofs.Sess
open Go Go.RowKit

/-- A splitter in block sb: ob: the block of its bytes; n bytes have come, the last a carriage return or not; xs: those that are kept. -/
structure SplitAt (w : World) (sb : Nat) (ob : Option Nat) (n : Nat) (ends : Bool) (xs : ByteArray) : Prop where
  own : ∃ v, w.heap[sb]? = some (SplitObj v n ends) ∧ v.ownBlock = ob ∧ w.ownsRow 0 5 1 v xs.size (Lib.strCells xs)
  ne : ob ≠ some sb

def footS (sb : Nat) (ob : Option Nat) : List Nat := [sb] ++ ob.toList

theorem SplitAt.keep {w w' : World} {sb : Nat} {ob : Option Nat} {n : Nat} {ends : Bool} {xs : ByteArray} (h : SplitAt w sb ob n ends xs) {S : List Nat} (hk : Keeps S w w') (hS : ∀ k ∈ footS sb ob, k ∉ S) : SplitAt w' sb ob n ends xs := by
  obtain ⟨v, h1, h2, h3⟩ := h.own
  exact ⟨⟨v, hk.heap h1 (hS sb (by simp [footS])), h2, hk.own h3 (fun k hk' => hS k (by rw [← h2, hk']; simp [footS]))⟩, h.ne⟩

/-- The splitter's bytes behind s: at most 513 are kept. -/
def keptS (xs s : ByteArray) : ByteArray := if xs.size < 513 then xs ++ s.extract 0 (min (513 - xs.size) s.size) else xs

/-- The splitter behind append. -/
def SplitApp (w : World) (sb : Nat) (ob : Option Nat) (n : Nat) (xs s : ByteArray) (e : Ending) (w' : World) : Prop :=
  e = .returned (.tuple #[]) ∧ ∃ ob', SplitAt w' sb ob' (n + s.size) (byt s (s.size - 1) == 13) (keptS xs s) ∧ Mod (footS sb ob) (footS sb ob') w w'

theorem strCells_append (a b : ByteArray) : Lib.strCells (a ++ b) = Lib.strCells a ++ Lib.strCells b := by
  simp [Lib.strCells]

set_option maxHeartbeats 400000 in
theorem linesAppend_none (w : World) (sb : Nat) : Calls Tryz.prog 362 #[.pointer (some ⟨sb, 0, none⟩), .string ⟨#[]⟩] w fun e w' => e = .returned (.tuple #[]) ∧ w = w' := by
  have hT := toList_mk
  go_enter Tryz.func362, Tryz.ntmps362
  go_wp2_with fail
  refine bodyPost_ret (results_none rfl _ _ _) rfl ?_
  exact ⟨rfl, rfl⟩

set_option maxRecDepth 100000 in
set_option maxHeartbeats 8000000 in
/-- A piece comes, and not too many bytes are kept. -/
theorem linesAppend_room (w : World) (sb : Nat) (ob : Option Nat) (n : Nat) (ends : Bool) (xs s : ByteArray) (h : SplitAt w sb ob n ends xs) (hs : s.size ≠ 0) (hx : xs.size < 513) (hn : n + s.size < 1000000) :
    Calls Tryz.prog 362 #[.pointer (some ⟨sb, 0, none⟩), .string s] w (SplitApp w sb ob n xs s) := by
  obtain ⟨i0, hi0, hz0, hz1, hz2⟩ := info_parts info5
  obtain ⟨v, h1, h2, h3⟩ := h.own
  have hne := h.ne
  have hl := lt_of_heap h1
  obtain ⟨va, vc, hv⟩ : ∃ a c, v = .slice a xs.size c := by
    rcases h3.2 with ⟨hvn, hn0⟩ | ⟨g, cap, cur, hvs, _⟩
    · exact ⟨none, 0, by rw [hvn, hn0]⟩
    · exact ⟨_, _, hvs⟩
  have c0 : w.cell? ⟨sb, 0, none⟩ = some (.int .i64 512) := cell_of_heap h1 rfl
  have c1 : w.cell? ⟨sb, 1, none⟩ = some v := cell_of_heap h1 rfl
  have c2 : w.cell? ⟨sb, 2, none⟩ = some (.int .i64 (n : Int)) := cell_of_heap h1 rfl
  have c3 : w.cell? ⟨sb, 3, none⟩ = some (.bool ends) := cell_of_heap h1 rfl
  have f1 : w.frozen? ⟨sb, 1, none⟩ = false := free_of_heap h1
  have f2 : w.frozen? ⟨sb, 2, none⟩ = false := free_of_heap h1
  have f3 : w.frozen? ⟨sb, 3, none⟩ = false := free_of_heap h1
  have hse : s.toList.isEmpty = false := toList_some hs
  have hi1 : s.size - 1 < s.size := by omega
  have hbt := byt_get s (s.size - 1) hi1
  have hb3 : byt s (s.size - 1) < 256 := byt_lt s _
  have H1 := Lib.hid (And.intro h1 (And.intro h2 h3))
  clear h h1 h2 h3
  subst hv
  have hp0 : (0 : Int) ≤ (s.size : Int) - 1 := by omega
  have hp1 : (s.size : Int) - 1 < (s.size : Int) := by omega
  go_enter Tryz.func362, Tryz.ntmps362
  go_upto_region 3 with fail
  obtain ⟨w1, hw1⟩ : ∃ w1, ((w.setCell ⟨sb, 2, none⟩ (.int .i64 ((n : Int) + (s.size : Int)))).setCell ⟨sb, 3, none⟩ (.bool (((s[s.size - 1]'hi1).toNat : Int) == 13))) = w1 := ⟨_, rfl⟩
  rw [hw1]
  have e1 : w1.heap[sb]? = some (SplitObj (.slice va xs.size vc) (n + s.size) (byt s (s.size - 1) == 13)) := by
    rw [← hw1, heap_setCell_self (heap_setCell_self H1.out.1 _), hbt]
    have hbb : ((((s[s.size - 1]'hi1).toNat : Int) == 13) : Bool) = ((s[s.size - 1]'hi1).toNat == 13) := by
      rw [Bool.eq_iff_iff]; simp; omega
    rw [hbb]
    rfl
  have k1 : Keeps [sb] w w1 := by rw [← hw1]; exact ((Keeps.refl _ _).setCell (by simp) _).setCell (by simp) _
  have o1 : w1.ownsRow 0 5 1 (.slice va xs.size vc) xs.size (Lib.strCells xs) := k1.own H1.out.2.2 (fun k hk => by rw [H1.out.2.1] at hk; rw [hk] at hne; simpa using hne)
  have hob := H1.out.2.1
  have E := Lib.hid (And.intro e1 (And.intro k1 (And.intro o1 hob)))
  have hS : (fun wx : World => wx.cell? ⟨sb, 0, none⟩ = some (.int .i64 512) ∧ wx.cell? ⟨sb, 1, none⟩ = some (.slice va xs.size vc)) w1.drew := ⟨cell_of_heap (w := w1) e1 rfl, cell_of_heap (w := w1) e1 rfl⟩
  have hSS := Lib.hid hS
  have g1 : w1.frozen? ⟨sb, 1, none⟩ = false := free_of_heap e1
  clear e1 k1 o1 hob hw1 c0 c1 c2 c3 f1 f2 f3 H1
  have hw3 : IntKind.i64.wrap (513 : Int) = 513 := by decide
  have hw4 : IntKind.i64.wrap ((513 : Int) - (xs.size : Int)) = 513 - (xs.size : Int) := IntWalk.i64_in _ (by omega)
  refine wp_region_seq (fun wx : World => wx.cell? ⟨sb, 0, none⟩ = some (.int .i64 512) ∧ wx.cell? ⟨sb, 1, none⟩ = some (.slice va xs.size vc))
    [(0, 0), (1, 0), (2, 0), (3, 1), (4, 0), (5, 0), (6, 0), (7, 0), (8, 1), (9, 0), (10, 0), (11, 0)]
    [] (by kernel_rfl) (by kernel_rfl) (fun d _ _ _ _ h => by cases d <;> exact h) ?_
  simp only [picks, List.getD_cons_succ, List.getD_cons_zero]
  (refine seq_pure (v := ?_) (by rfl) ?_ ?_; rotate_left; focus (intro wq; first | (go_simp; done) | (go_simp; with_reducible rfl))); (try simp only [Act.put, List.setIfInBounds_toArray, List.set_cons_zero, List.set_cons_succ])
  (refine seq_pure (v := ?_) (by rfl) ?_ ?_; rotate_left; focus (intro wq; first | (go_simp; done) | (go_simp; with_reducible rfl))); (try simp only [Act.put, List.setIfInBounds_toArray, List.set_cons_zero, List.set_cons_succ])
  (refine seq_pure (v := ?_) (by rfl) ?_ ?_; rotate_left; focus (intro wq; first | (go_simp; done) | (go_simp; with_reducible rfl))); (try simp only [Act.put, List.setIfInBounds_toArray, List.set_cons_zero, List.set_cons_succ])
  (refine seq_read (v := ?_) hS (by rfl) ?_ ?_; rotate_left; focus (intro wq hSq; obtain ⟨hq1, hq2⟩ := hSq; first | (go_simp; done) | (go_simp; with_reducible rfl))); (try simp only [Act.put, List.setIfInBounds_toArray, List.set_cons_zero, List.set_cons_succ])
  (refine seq_pure (v := ?_) (by rfl) ?_ ?_; rotate_left; focus (intro wq; first | (go_simp; done) | (go_simp; with_reducible rfl))); (try simp only [Act.put, List.setIfInBounds_toArray, List.set_cons_zero, List.set_cons_succ])
  (refine seq_pure (v := ?_) (by rfl) ?_ ?_; rotate_left; focus (intro wq; first | (go_simp; done) | (go_simp; with_reducible rfl))); (try simp only [Act.put, List.setIfInBounds_toArray, List.set_cons_zero, List.set_cons_succ])
  (refine seq_pure (v := ?_) (by rfl) ?_ ?_; rotate_left; focus (intro wq; first | (go_simp; done) | (go_simp; with_reducible rfl))); (try simp only [Act.put, List.setIfInBounds_toArray, List.set_cons_zero, List.set_cons_succ])
  (refine seq_pure (v := ?_) (by rfl) ?_ ?_; rotate_left; focus (intro wq; first | (go_simp; done) | (go_simp; with_reducible rfl))); (try simp only [Act.put, List.setIfInBounds_toArray, List.set_cons_zero, List.set_cons_succ])
  (refine seq_read (v := ?_) hS (by rfl) ?_ ?_; rotate_left; focus (intro wq hSq; obtain ⟨hq1, hq2⟩ := hSq; first | (go_simp; done) | (go_simp; with_reducible rfl))); (try simp only [Act.put, List.setIfInBounds_toArray, List.set_cons_zero, List.set_cons_succ])
  (refine seq_pure (v := ?_) (by rfl) ?_ ?_; rotate_left; focus (intro wq; first | (go_simp; done) | (go_simp; with_reducible rfl))); (try simp only [Act.put, List.setIfInBounds_toArray, List.set_cons_zero, List.set_cons_succ])
  (refine seq_pure (v := ?_) (by rfl) ?_ ?_; rotate_left; focus (intro wq; first | (go_simp; done) | (go_simp; with_reducible rfl))); (try simp only [Act.put, List.setIfInBounds_toArray, List.set_cons_zero, List.set_cons_succ])
  (refine seq_pure (v := ?_) (by rfl) ?_ ?_; rotate_left; focus (intro wq; first | (go_simp; done) | (go_simp; with_reducible rfl))); (try simp only [Act.put, List.setIfInBounds_toArray, List.set_cons_zero, List.set_cons_succ])
  refine seq_nil ?_
  clear hS
  have hpos : (0 : Int) < 513 - (xs.size : Int) := by omega
  obtain ⟨d, hd⟩ : ∃ d, d = min (513 - xs.size) s.size := ⟨_, rfl⟩
  have hd1 : d ≤ s.size := by omega
  have hd2 : d ≠ 0 := by omega
  have hma : (0 : Int) ≤ min (513 - (xs.size : Int)) (s.size : Int) := by omega
  have hmb : min (513 - (xs.size : Int)) (s.size : Int) ≤ (s.size : Int) := by omega
  have hmc : (min (513 - (xs.size : Int)) (s.size : Int)).toNat = d := by omega
  have hxz : (s.extract 0 d).size = d := by simp; omega
  go_upto_region 5 with fail
  have hS : (fun wx : World => wx.cell? ⟨sb, 0, none⟩ = some (.int .i64 512) ∧ wx.cell? ⟨sb, 1, none⟩ = some (.slice va xs.size vc)) w1.drew.drew := hSS.out
  refine wp_region_seq (fun wx : World => wx.cell? ⟨sb, 0, none⟩ = some (.int .i64 512) ∧ wx.cell? ⟨sb, 1, none⟩ = some (.slice va xs.size vc))
    [(0, 0), (1, 0), (2, 0), (3, 0), (4, 1), (5, 0), (6, 0), (7, 0), (8, 0), (9, 0), (10, 0), (11, 3), (12, 0), (13, 0), (14, 3)]
    [[11, 4], [14, 4]] (by kernel_rfl) (by kernel_rfl) (fun d _ _ _ _ h => by cases d <;> exact h) ?_
  simp only [picks, List.getD_cons_succ, List.getD_cons_zero]
  (refine seq_pure (v := ?_) (by rfl) ?_ ?_; rotate_left; focus (intro wq; first | (go_simp; done) | (go_simp; with_reducible rfl))); (try simp only [Act.put, List.setIfInBounds_toArray, List.set_cons_zero, List.set_cons_succ])
  (refine seq_pure (v := ?_) (by rfl) ?_ ?_; rotate_left; focus (intro wq; first | (go_simp; done) | (go_simp; with_reducible rfl))); (try simp only [Act.put, List.setIfInBounds_toArray, List.set_cons_zero, List.set_cons_succ])
  (refine seq_pure (v := ?_) (by rfl) ?_ ?_; rotate_left; focus (intro wq; first | (go_simp; done) | (go_simp; with_reducible rfl))); (try simp only [Act.put, List.setIfInBounds_toArray, List.set_cons_zero, List.set_cons_succ])
  (refine seq_pure (v := ?_) (by rfl) ?_ ?_; rotate_left; focus (intro wq; first | (go_simp; done) | (go_simp; with_reducible rfl))); (try simp only [Act.put, List.setIfInBounds_toArray, List.set_cons_zero, List.set_cons_succ])
  (refine seq_read (v := ?_) hS (by rfl) ?_ ?_; rotate_left; focus (intro wq hSq; obtain ⟨hq1, hq2⟩ := hSq; first | (go_simp; done) | (go_simp; with_reducible rfl))); (try simp only [Act.put, List.setIfInBounds_toArray, List.set_cons_zero, List.set_cons_succ])
  (refine seq_pure (v := ?_) (by rfl) ?_ ?_; rotate_left; focus (intro wq; first | (go_simp; done) | (go_simp; with_reducible rfl))); (try simp only [Act.put, List.setIfInBounds_toArray, List.set_cons_zero, List.set_cons_succ])
  (refine seq_pure (v := ?_) (by rfl) ?_ ?_; rotate_left; focus (intro wq; first | (go_simp; done) | (go_simp; with_reducible rfl))); (try simp only [Act.put, List.setIfInBounds_toArray, List.set_cons_zero, List.set_cons_succ])
  (refine seq_pure (v := ?_) (by rfl) ?_ ?_; rotate_left; focus (intro wq; first | (go_simp; done) | (go_simp; with_reducible rfl))); (try simp only [Act.put, List.setIfInBounds_toArray, List.set_cons_zero, List.set_cons_succ])
  (refine seq_pure (v := ?_) (by rfl) ?_ ?_; rotate_left; focus (intro wq; first | (go_simp; done) | (go_simp; with_reducible rfl))); (try simp only [Act.put, List.setIfInBounds_toArray, List.set_cons_zero, List.set_cons_succ])
  (refine seq_pure (v := ?_) (by rfl) ?_ ?_; rotate_left; focus (intro wq; first | (go_simp; done) | (go_simp; with_reducible rfl))); (try simp only [Act.put, List.setIfInBounds_toArray, List.set_cons_zero, List.set_cons_succ])
  (refine seq_pure (v := ?_) (by rfl) ?_ ?_; rotate_left; focus (intro wq; first | (go_simp; done) | (go_simp; with_reducible rfl))); (try simp only [Act.put, List.setIfInBounds_toArray, List.set_cons_zero, List.set_cons_succ])
  refine seq_do (fun K hK => ?_)
  refine step_append_string (by rfl) _ _ 75 9 (by rfl) 5 i0 Tryz.underlying75 Tryz.underlying9 hi0 hz0 hz1 hz2 (.slice va xs.size vc) xs.size (Lib.strCells xs) E.out.2.2.1 (by rfl) (s.extract 0 d) (by first | rfl | exact congrArg (fun k => Value.string (s.extract 0 k)) hd.symm) (by omega) (by omega) ?_
  intro g cp w2 hown hgrow hat
  have hsb : sb < w1.heap.size := lt_of_heap E.out.1
  have hnv : some sb ≠ (Value.slice va xs.size vc).ownBlock := by rw [E.out.2.2.2]; exact Ne.symm hne
  have q2 : w2.heap[sb]? = some (SplitObj (.slice va xs.size vc) (n + s.size) (byt s (s.size - 1) == 13)) := (hgrow.block sb hsb hnv).trans E.out.1
  have q0 : w2.frozen? ⟨sb, 1, none⟩ = false := free_of_heap q2
  have q1 : w2.cell? ⟨sb, 1, none⟩ = some (.slice va xs.size vc) := cell_of_heap q2 rfl
  have hgs : g ≠ sb := by
    rcases hat with hat | hat
    · intro e; exact hnv (by rw [hat, e])
    · have : w1.drew.drew.heap.size = w1.heap.size := rfl
      omega
  have QQ := Lib.hid (And.intro q2 (And.intro hown (And.intro hgrow hat)))
  clear q2 hown hgrow hat
  refine hK.out _ _ ?_; clear hK; clear K
  (try simp only [Act.put, List.setIfInBounds_toArray, List.set_cons_zero, List.set_cons_succ])
  (refine seq_pure (v := ?_) (by rfl) ?_ ?_; rotate_left; focus (intro wq; first | (go_simp; done) | (go_simp; with_reducible rfl))); (try simp only [Act.put, List.setIfInBounds_toArray, List.set_cons_zero, List.set_cons_succ])
  (refine seq_pure (v := ?_) (by rfl) ?_ ?_; rotate_left; focus (intro wq; first | (go_simp; done) | (go_simp; with_reducible rfl))); (try simp only [Act.put, List.setIfInBounds_toArray, List.set_cons_zero, List.set_cons_succ])
  refine seq_do (fun K hK => ?_)
  go_simp
  refine hK.out _ _ ?_; clear hK; clear K
  (try simp only [Act.put, List.setIfInBounds_toArray, List.set_cons_zero, List.set_cons_succ])
  refine seq_nil ?_
  clear hS
  go_end0
  rw [show xs.size + min (513 - xs.size) s.size = xs.size + (s.extract 0 d).size by omega]
  have h0 : (w2.setCell ⟨sb, 1, none⟩ (.slice (some ⟨g, 0, none⟩) (xs.size + (s.extract 0 d).size) cp)).heap[sb]? = some (SplitObj (.slice (some ⟨g, 0, none⟩) (xs.size + (s.extract 0 d).size) cp) (n + s.size) (byt s (s.size - 1) == 13)) := by
    rw [heap_setCell_self QQ.out.1]; rfl
  have hk2 : Keeps [sb] w2 (w2.setCell ⟨sb, 1, none⟩ (.slice (some ⟨g, 0, none⟩) (xs.size + (s.extract 0 d).size) cp)) := (Keeps.refl _ _).setCell (by simp) _
  have hkp : keptS xs s = xs ++ s.extract 0 d := by unfold keptS; rw [if_pos hx, ← hd]
  have hkz : (xs ++ s.extract 0 d).size = xs.size + (s.extract 0 d).size := by simp
  have hlw : w.heap.size ≤ w1.heap.size := E.out.2.1.size
  refine ⟨rfl, some g, ⟨⟨_, h0, rfl, ?_⟩, by simpa using hgs⟩, ⟨?_, ?_⟩⟩
  · rw [hkp, hkz, strCells_append]
    exact hk2.own QQ.out.2.1 (fun k hk => by simp [Value.ownBlock] at hk; simp; omega)
  · refine ((E.out.2.1.mono (T := footS sb ob) (by simp [footS])).grown (w := w1) (w' := w2) (row := (Value.slice va xs.size vc).ownBlock) ⟨QQ.out.2.2.1.os, QQ.out.2.2.1.tape, QQ.out.2.2.1.output, QQ.out.2.2.1.size, QQ.out.2.2.1.block⟩ (fun k hk _ => by rw [E.out.2.2.2] at hk; simp [footS, hk])).trans hk2 (by simp [footS])
  · intro k hk
    simp [footS] at hk
    rcases hk with hk | hk
    · left; simp [footS, hk]
    · subst hk
      rcases QQ.out.2.2.2 with hh | hh
      · left; rw [E.out.2.2.2] at hh; simp [footS, hh]
      · right
        have : w1.drew.drew.heap.size = w1.heap.size := rfl
        omega
end Go.Proofs.Sess
namespace Go.Proofs.Sess
open Go Go.RowKit

set_option maxHeartbeats 800000 in
theorem linesLength (w : World) (sb : Nat) (ob : Option Nat) (n : Nat) (ends : Bool) (xs : ByteArray) (h : SplitAt w sb ob n ends xs) (hn : n < 1000000) :
    Calls Tryz.prog 363 #[.pointer (some ⟨sb, 0, none⟩)] w fun e w' => e = .returned (.int .i64 (if ends then (n : Int) - 1 else n)) ∧ w = w' := by
  obtain ⟨v, h1, h2, h3⟩ := h.own
  have c2 : w.cell? ⟨sb, 2, none⟩ = some (.int .i64 (n : Int)) := cell_of_heap h1 rfl
  have c3 : w.cell? ⟨sb, 3, none⟩ = some (.bool ends) := cell_of_heap h1 rfl
  clear h h1 h2 h3
  cases ends
  · go_enter Tryz.func363, Tryz.ntmps363
    go_wp2
    go_ret
    exact ⟨rfl, rfl⟩
  · go_enter Tryz.func363, Tryz.ntmps363
    go_wp2
    go_ret
    exact ⟨rfl, rfl⟩

set_option maxHeartbeats 800000 in
theorem linesFirst (w : World) (sb : Nat) (ob : Option Nat) (n m : Nat) (ends : Bool) (xs : ByteArray) (h : SplitAt w sb ob n ends xs) (hm : m ≤ 512) (hx : m ≤ xs.size) (hx0 : xs.size ≠ 0) :
    Calls Tryz.prog 375 #[.pointer (some ⟨sb, 0, none⟩), .int .i64 (m : Int), .int .i64 512] w fun e w' => e = .returned (.string (xs.extract 0 m)) ∧ w = w' := by
  obtain ⟨v, h1, h2, h3⟩ := h.own
  have c1 : w.cell? ⟨sb, 1, none⟩ = some v := cell_of_heap h1 rfl
  have h3' := h3
  rcases h3.2 with ⟨hvn, hn0⟩ | ⟨g, cap, cur, hvs, _, hg, hcap, hcm, hcs, htk⟩
  · exact absurd hn0 hx0
  · subst hvs
    have hb := bytes_of_own h3'
    have hcv := Lib.run_convert_window (P := Tryz.prog) w 75 5 9 Tryz.underlying75 Tryz.underlying5 Tryz.underlying9 g 0 xs hb 0 m m (by omega)
    simp only [Nat.add_zero, Nat.zero_add] at hcv
    have hm1 : (m : Int) ≤ 512 := by omega
    have hm2 : (m : Int) ≤ (xs.size : Int) := by omega
    have hmi1 : min (m : Int) 512 = m := by omega
    have hmi2 : min (m : Int) (xs.size : Int) = m := by omega
    have hcp : m ≤ cap := by omega
    have hcp2 : (m : Int) ≤ (cap : Int) := by omega
    clear h h1 h2 h3 h3' hg hcm hcs htk hb
    go_enter Tryz.func375, Tryz.ntmps375
    go_wp2
    go_ret
    exact ⟨rfl, rfl⟩
end Go.Proofs.Sess
namespace Go.Proofs.Sess
open Go Go.RowKit

set_option maxRecDepth 100000 in
set_option maxHeartbeats 1600000 in
theorem linesForget (u : FrameMode) (w : World) (sb : Nat) (ob : Option Nat) (n : Nat) (ends : Bool) (xs : ByteArray) (h : SplitAt w sb ob n ends xs) (hx0 : xs.size ≠ 0) :
    CallsD Tryz.prog 374 #[.pointer (some ⟨sb, 0, none⟩)] u w fun e u' w' => u' = u ∧ e = .returned (.tuple #[]) ∧ SplitAt w' sb ob 0 false ⟨#[]⟩ ∧ Keeps [sb] w w' := by
  obtain ⟨v, h1, h2, h3⟩ := h.own
  have hne := h.ne
  rcases h3.2 with ⟨hvn, hn0⟩ | ⟨g, cap, cur, hvs, _, hg, hcap, hcm, hcs, htk⟩
  · exact absurd hn0 hx0
  · subst hvs
    have c1 : w.cell? ⟨sb, 1, none⟩ = some (.slice (some ⟨g, 0, none⟩) xs.size cap) := cell_of_heap h1 rfl
    have c2 : w.cell? ⟨sb, 2, none⟩ = some (.int .i64 (n : Int)) := cell_of_heap h1 rfl
    have c3 : w.cell? ⟨sb, 3, none⟩ = some (.bool ends) := cell_of_heap h1 rfl
    have f1 : w.frozen? ⟨sb, 1, none⟩ = false := free_of_heap h1
    have f2 : w.frozen? ⟨sb, 2, none⟩ = false := free_of_heap h1
    have f3 : w.frozen? ⟨sb, 3, none⟩ = false := free_of_heap h1
    have hgs : g ≠ sb := fun e => hne (by rw [← h2, e]; rfl)
    have H := Lib.hid (And.intro h1 (And.intro h2 (And.intro hg (And.intro hcm hcs))))
    clear h h1 h2 h3 hg hcm hcs htk
    go_enter_d Tryz.func374, Tryz.ntmps374
    go_wp2
    go_end0
    have hk : Keeps [sb] w (((w.setCell ⟨sb, 1, none⟩ (.slice (some ⟨g, 0, none⟩) 0 cap)).setCell ⟨sb, 2, none⟩ (.int .i64 0)).setCell ⟨sb, 3, none⟩ (.bool false)) := (((Keeps.refl _ _).setCell (by simp) _).setCell (by simp) _).setCell (by simp) _
    refine ⟨rfl, ⟨⟨.slice (some ⟨g, 0, none⟩) 0 cap, ?_, H.out.2.1, rfl, .inr ⟨g, cap, cur, rfl, Nat.zero_le _, hk.heap H.out.2.2.1 (by simpa using hgs), Nat.zero_le _, H.out.2.2.2.1, H.out.2.2.2.2, by rfl⟩⟩, hne⟩, hk⟩
    rw [heap_setCell_self (heap_setCell_self (heap_setCell_self H.out.1 _) _) _]; rfl
end Go.Proofs.Sess
namespace Go.Proofs.Sess
open Go Go.RowKit

/-- A line is taken. -/
def LineTook (w : World) (sb : Nat) (ob : Option Nat) (xs : ByteArray) (m : Nat) (e : Ending) (w' : World) : Prop :=
  e = .returned (.agg #[.string (xs.extract 0 m), .bool false]) ∧ SplitAt w' sb ob 0 false ⟨#[]⟩ ∧ Keeps [sb] w w'

set_option maxRecDepth 100000 in
set_option maxHeartbeats 8000000 in
theorem linesLine (w : World) (sb : Nat) (ob : Option Nat) (n m : Nat) (ends : Bool) (xs : ByteArray) (h : SplitAt w sb ob n ends xs) (hm : m ≤ 512) (hx : m ≤ xs.size) (hx0 : xs.size ≠ 0) :
    Calls Tryz.prog 353 #[.pointer (some ⟨sb, 0, none⟩), .int .i64 (m : Int)] w (LineTook w sb ob xs m) := by
  have hA : ∀ W, Keeps [] w W → SplitAt W sb ob n ends xs := fun W hW => h.keep hW (by simp)
  have hAS : ∀ W, Keeps [] w W → (fun wx : World => wx.cell? ⟨sb, 0, none⟩ = some (.int .i64 512)) W := fun W hW => by
    obtain ⟨v, h1, _, _⟩ := (hA W hW).own
    exact cell_of_heap h1 rfl
  have HA := Lib.hid hA
  have HS := Lib.hid hAS
  have hm1 : ¬ ((512 : Int) < (m : Int)) := by omega
  have hm2 : (m : Int) ≤ 512 := by omega
  clear h hA hAS
  go_enter_defers Tryz.func353, Tryz.ntmps353
  go_wp2_with fail
  refine wp_calm ?_
  have hS := HS.out (w.alloc (.cells #[.string ⟨#[]⟩, .bool false] 310)).drew ((Keeps.refl _ _).alloc _).drew
  have hF := linesFirst (w.alloc (.cells #[.string ⟨#[]⟩, .bool false] 310)).drew sb ob n m ends xs (HA.out _ ((Keeps.refl _ _).alloc _).drew) hm hx hx0
  have HF := Lib.hid hF
  clear hF
  refine wp_region_seq (fun wx : World => wx.cell? ⟨sb, 0, none⟩ = some (.int .i64 512))
    [(0, 0), (1, 0), (2, 0), (3, 0), (4, 0), (5, 1), (7, 0), (8, 0), (9, 0), (10, 0), (11, 1), (12, 0), (6, 2), (13, 2), (14, 0), (15, 2), (16, 0), (17, 3)]
    [[17, 5], [17, 11]] (by kernel_rfl) (by kernel_rfl) (fun d _ _ _ _ h => by cases d <;> exact h) ?_
  simp only [picks, List.getD_cons_succ, List.getD_cons_zero]
  (refine seq_pure (v := ?_) (by rfl) ?_ ?_; rotate_left; focus (intro wq; first | (go_simp; done) | (go_simp; with_reducible rfl))); (try simp only [Act.put, List.setIfInBounds_toArray, List.set_cons_zero, List.set_cons_succ])
  (refine seq_pure (v := ?_) (by rfl) ?_ ?_; rotate_left; focus (intro wq; first | (go_simp; done) | (go_simp; with_reducible rfl))); (try simp only [Act.put, List.setIfInBounds_toArray, List.set_cons_zero, List.set_cons_succ])
  (refine seq_pure (v := ?_) (by rfl) ?_ ?_; rotate_left; focus (intro wq; first | (go_simp; done) | (go_simp; with_reducible rfl))); (try simp only [Act.put, List.setIfInBounds_toArray, List.set_cons_zero, List.set_cons_succ])
  (refine seq_pure (v := ?_) (by rfl) ?_ ?_; rotate_left; focus (intro wq; first | (go_simp; done) | (go_simp; with_reducible rfl))); (try simp only [Act.put, List.setIfInBounds_toArray, List.set_cons_zero, List.set_cons_succ])
  (refine seq_pure (v := ?_) (by rfl) ?_ ?_; rotate_left; focus (intro wq; first | (go_simp; done) | (go_simp; with_reducible rfl))); (try simp only [Act.put, List.setIfInBounds_toArray, List.set_cons_zero, List.set_cons_succ])
  (refine seq_read (v := ?_) hS (by rfl) ?_ ?_; rotate_left; focus (intro wq hSq; obtain hq1 := hSq; first | (go_simp; done) | (go_simp; with_reducible rfl))); (try simp only [Act.put, List.setIfInBounds_toArray, List.set_cons_zero, List.set_cons_succ])
  (refine seq_pure (v := ?_) (by rfl) ?_ ?_; rotate_left; focus (intro wq; first | (go_simp; done) | (go_simp; with_reducible rfl))); (try simp only [Act.put, List.setIfInBounds_toArray, List.set_cons_zero, List.set_cons_succ])
  (refine seq_pure (v := ?_) (by rfl) ?_ ?_; rotate_left; focus (intro wq; first | (go_simp; done) | (go_simp; with_reducible rfl))); (try simp only [Act.put, List.setIfInBounds_toArray, List.set_cons_zero, List.set_cons_succ])
  (refine seq_pure (v := ?_) (by rfl) ?_ ?_; rotate_left; focus (intro wq; first | (go_simp; done) | (go_simp; with_reducible rfl))); (try simp only [Act.put, List.setIfInBounds_toArray, List.set_cons_zero, List.set_cons_succ])
  (refine seq_pure (v := ?_) (by rfl) ?_ ?_; rotate_left; focus (intro wq; first | (go_simp; done) | (go_simp; with_reducible rfl))); (try simp only [Act.put, List.setIfInBounds_toArray, List.set_cons_zero, List.set_cons_succ])
  (refine seq_read (v := ?_) hS (by rfl) ?_ ?_; rotate_left; focus (intro wq hSq; obtain hq1 := hSq; first | (go_simp; done) | (go_simp; with_reducible rfl))); (try simp only [Act.put, List.setIfInBounds_toArray, List.set_cons_zero, List.set_cons_succ])
  (refine seq_pure (v := ?_) (by rfl) ?_ ?_; rotate_left; focus (intro wq; first | (go_simp; done) | (go_simp; with_reducible rfl))); (try simp only [Act.put, List.setIfInBounds_toArray, List.set_cons_zero, List.set_cons_succ])
  refine seq_act (fun K hK => ?_)
  go_simp
  refine HF.out.mono ?_
  rintro e w1 ⟨rfl, rfl⟩
  refine hK.out _ _ (by exact hS) ?_; clear hK; clear K
  (try simp only [Act.put, List.setIfInBounds_toArray, List.set_cons_zero, List.set_cons_succ])
  refine seq_act (fun K hK => ?_)
  go_simp
  refine hK.out _ _ (by exact hS) ?_; clear hK; clear K
  (try simp only [Act.put, List.setIfInBounds_toArray, List.set_cons_zero, List.set_cons_succ])
  (refine seq_pure (v := ?_) (by rfl) ?_ ?_; rotate_left; focus (intro wq; first | (go_simp; done) | (go_simp; with_reducible rfl))); (try simp only [Act.put, List.setIfInBounds_toArray, List.set_cons_zero, List.set_cons_succ])
  refine seq_act (fun K hK => ?_)
  go_simp
  refine hK.out _ _ (by exact HS.out _ (((Keeps.refl _ _).alloc _).drew)) ?_; clear hK; clear K
  (try simp only [Act.put, List.setIfInBounds_toArray, List.set_cons_zero, List.set_cons_succ])
  (refine seq_pure (v := ?_) (by rfl) ?_ ?_; rotate_left; focus (intro wq; first | (go_simp; done) | (go_simp; with_reducible rfl))); (try simp only [Act.put, List.setIfInBounds_toArray, List.set_cons_zero, List.set_cons_succ])
  refine seq_do (fun K hK => ?_)
  go_simp
  refine hK.out _ _ ?_; clear hK; clear K
  (try simp only [Act.put, List.setIfInBounds_toArray, List.set_cons_zero, List.set_cons_succ])
  refine seq_nil ?_
  clear hS
  rw [show decide ((512 : Int) < (m : Int)) = false by simpa using hm2]
  obtain ⟨w1, hw1⟩ : ∃ w1, (w.alloc (.cells #[.string (xs.extract 0 m), .bool false] 310)).drew = w1 := ⟨_, rfl⟩
  rw [hw1]
  have k1 : Keeps [] w w1 := by rw [← hw1]; exact ((Keeps.refl _ _).alloc _).drew
  have r1 : w1.heap[w.heap.size]? = some (.cells #[.string (xs.extract 0 m), .bool false] 310 (0, 0)) := by rw [← hw1]; exact heap_alloc_self
  have hsp := HA.out _ k1
  have hsl : sb < w.heap.size := by obtain ⟨v, q1, _⟩ := (HA.out w (Keeps.refl _ _)).own; exact lt_of_heap q1
  have H1 := Lib.hid (And.intro k1 (And.intro r1 hsp))
  clear k1 r1 hsp hw1 HF HS
  go_wp2_with fail
  refine leaves_cons (f := 374) (args := #[.pointer (some ⟨sb, 0, none⟩)]) (by simp) (by simp [go_sem]) ?_
  refine (linesForget .returning _ sb ob n ends xs H1.out.2.2 hx0).mono ?_
  rintro e u w2 ⟨rfl, rfl, h2, k2⟩
  have r2 := k2.heap H1.out.2.1 (by simp; omega)
  have y0 : w2.cell? ⟨w.heap.size, 0, none⟩ = some (.string (xs.extract 0 m)) := cell_of_heap r2 rfl
  have y1 : w2.cell? ⟨w.heap.size, 1, none⟩ = some (.bool false) := cell_of_heap r2 rfl
  refine ⟨.agg #[.string (xs.extract 0 m), .bool false], ?_, rfl, h2, (H1.out.1.mono (by simp)).trans k2 (fun _ h _ => h)⟩
  simp only [results, show Tryz.f353.results = #[ResultVar.cell 4 310] from rfl]
  go_simp
end Go.Proofs.Sess
