/- A part of the proof that a session of datagrams answers as the reference (SessionDatagrams). Its contents: contracts of functions of the program, each stated with its premises. -/
import Derived.Test.YtkaafdoplemjhaaGreatDoorSessQB2
import Derived.Test.YtkaafdoplemjhaaGreatDoorSessQA6
namespace Go.Proofs.Sess
open Go Go.RowKit

set_option maxHeartbeats 800000 in
/-- begin, where the application is raw. -/
theorem begin_raw (w : World) (b : Nat) (proto : Int) (h0 : w.cell? ⟨b, 0, none⟩ = some (.int .i64 proto)) (h1 : w.cell? ⟨b, 1, none⟩ = some (.int .i64 0)) :
    Calls Tryz.prog 23 #[.pointer (some ⟨b, 0, none⟩)] w fun e w' => e = .returned (.tuple #[]) ∧ w = w' := by
  by_cases hp : proto = 17
  · subst hp
    go_enter Tryz.func23, Tryz.ntmps23
    go_wp2
    refine bodyPost_ret (results_none rfl _ _ _) rfl ?_
    exact ⟨rfl, rfl⟩
  · have hp' : (proto == 17) = false := by simpa using hp
    go_enter Tryz.func23, Tryz.ntmps23
    go_wp2
    go_end0
    exact ⟨rfl, rfl⟩

/-- The cells of a session that begins, raw. -/
def SessCells0 (proto : Int) (b1 b2 : Int) (mb w1 w2 : Nat) : Array Value :=
  #[.int .i64 proto, .int .i64 0, .bool false, .slice none 0 0, .int .i64 b1, .int .i64 b2, .bool false, .bool false, .bool false, .bool false, .bool false, .bool false, .bool false, .map (some mb),
    .pointer none, .string ⟨#[]⟩, .bool false, .bool false, .bool false, .pointer (some ⟨w1, 0, none⟩), .string ⟨#[]⟩, .bool false, .bool false, .bool false, .pointer (some ⟨w2, 0, none⟩), .string ⟨#[]⟩, .bool false, .bool false, .bool false, .nilIface, .slice none 0 0, .int .i64 0]

/-- A new session. -/
def SessNew (w : World) (proto b1 b2 : Int) (e : Ending) (w' : World) : Prop :=
  e = .returned (.pointer (some ⟨w.heap.size + 2, 0, none⟩)) ∧
  SessAt w' (w.heap.size + 2) (w.heap.size + 1) none (SessCells0 proto b1 b2 (w.heap.size + 1) (w.heap.size + 4) (w.heap.size + 5)) (fun _ _ => 0) [] ∧
  w'.heap[w.heap.size + 4]? = some (WinObj 1 1 0 0 (.slice none 0 0)) ∧ w'.heap[w.heap.size + 5]? = some (WinObj 1 2 0 0 (.slice none 0 0)) ∧ Keeps [] w w'

set_option maxRecDepth 100000 in
set_option maxHeartbeats 4000000 in
theorem sessNew_nil (w : World) (b1 b2 : Int) : Calls Tryz.prog 12 #[.int .i64 6, .int .i64 0, .slice none 0 0, .agg #[.int .i64 b1, .int .i64 b2]] w (SessNew w 6 b1 b2) := by
  have hmm := @run_makeMap Tryz.prog
  go_enter Tryz.func12, Tryz.ntmps12
  go_wp2_with fail
  refine wp_loop_rounds 1 ?_
  rw [rounds_succ]
  go_wp2_with fail
  refine wp_loop_rounds 3 ?_
  rw [rounds_succ]
  go_wp2_with fail
  refine wp_region_seq (fun _ => True)
    [(0, 0), (1, 0), (2, 0), (4, 0), (5, 0), (3, 3), (6, 0), (7, 0), (8, 3)]
    [] (by kernel_rfl) (by kernel_rfl) (fun d _ _ _ _ h => by cases d <;> exact h) ?_
  simp only [picks, List.getD_cons_succ, List.getD_cons_zero]
  (refine seq_pure (v := ?_) (by rfl) ?_ ?_; rotate_left; focus (intro wq; first | (go_simp; done) | (go_simp; with_reducible rfl))); (try simp only [Act.put, List.setIfInBounds_toArray, List.set_cons_zero, List.set_cons_succ])
  (refine seq_pure (v := ?_) (by rfl) ?_ ?_; rotate_left; focus (intro wq; first | (go_simp; done) | (go_simp; with_reducible rfl))); (try simp only [Act.put, List.setIfInBounds_toArray, List.set_cons_zero, List.set_cons_succ])
  (refine seq_pure (v := ?_) (by rfl) ?_ ?_; rotate_left; focus (intro wq; first | (go_simp; done) | (go_simp; with_reducible rfl))); (try simp only [Act.put, List.setIfInBounds_toArray, List.set_cons_zero, List.set_cons_succ])
  (refine seq_pure (v := ?_) (by rfl) ?_ ?_; rotate_left; focus (intro wq; first | (go_simp; done) | (go_simp; with_reducible rfl))); (try simp only [Act.put, List.setIfInBounds_toArray, List.set_cons_zero, List.set_cons_succ])
  (refine seq_pure (v := ?_) (by rfl) ?_ ?_; rotate_left; focus (intro wq; first | (go_simp; done) | (go_simp; with_reducible rfl))); (try simp only [Act.put, List.setIfInBounds_toArray, List.set_cons_zero, List.set_cons_succ])
  refine seq_do (fun K hK => ?_)
  go_simp
  refine (winNew_any _ 1 1).mono ?_
  rintro e w1 ⟨rfl, rfl⟩
  refine hK.out _ _ ?_; clear hK; clear K
  (try simp only [Act.put, List.setIfInBounds_toArray, List.set_cons_zero, List.set_cons_succ])
  (refine seq_pure (v := ?_) (by rfl) ?_ ?_; rotate_left; focus (intro wq; first | (go_simp; done) | (go_simp; with_reducible rfl))); (try simp only [Act.put, List.setIfInBounds_toArray, List.set_cons_zero, List.set_cons_succ])
  (refine seq_pure (v := ?_) (by rfl) ?_ ?_; rotate_left; focus (intro wq; first | (go_simp; done) | (go_simp; with_reducible rfl))); (try simp only [Act.put, List.setIfInBounds_toArray, List.set_cons_zero, List.set_cons_succ])
  refine seq_do (fun K hK => ?_)
  go_simp
  refine hK.out _ _ ?_; clear hK; clear K
  (try simp only [Act.put, List.setIfInBounds_toArray, List.set_cons_zero, List.set_cons_succ])
  refine seq_nil ?_
  go_wp2_with fail
  rw [rounds_succ]
  go_wp2_with fail
  refine wp_region_seq (fun _ => True)
    [(0, 0), (1, 0), (2, 0), (4, 0), (5, 0), (3, 3), (6, 0), (7, 0), (8, 3)]
    [] (by kernel_rfl) (by kernel_rfl) (fun d _ _ _ _ h => by cases d <;> exact h) ?_
  simp only [picks, List.getD_cons_succ, List.getD_cons_zero]
  (refine seq_pure (v := ?_) (by rfl) ?_ ?_; rotate_left; focus (intro wq; first | (go_simp; done) | (go_simp; with_reducible rfl))); (try simp only [Act.put, List.setIfInBounds_toArray, List.set_cons_zero, List.set_cons_succ])
  (refine seq_pure (v := ?_) (by rfl) ?_ ?_; rotate_left; focus (intro wq; first | (go_simp; done) | (go_simp; with_reducible rfl))); (try simp only [Act.put, List.setIfInBounds_toArray, List.set_cons_zero, List.set_cons_succ])
  (refine seq_pure (v := ?_) (by rfl) ?_ ?_; rotate_left; focus (intro wq; first | (go_simp; done) | (go_simp; with_reducible rfl))); (try simp only [Act.put, List.setIfInBounds_toArray, List.set_cons_zero, List.set_cons_succ])
  (refine seq_pure (v := ?_) (by rfl) ?_ ?_; rotate_left; focus (intro wq; first | (go_simp; done) | (go_simp; with_reducible rfl))); (try simp only [Act.put, List.setIfInBounds_toArray, List.set_cons_zero, List.set_cons_succ])
  (refine seq_pure (v := ?_) (by rfl) ?_ ?_; rotate_left; focus (intro wq; first | (go_simp; done) | (go_simp; with_reducible rfl))); (try simp only [Act.put, List.setIfInBounds_toArray, List.set_cons_zero, List.set_cons_succ])
  refine seq_do (fun K hK => ?_)
  go_simp
  refine (winNew_any _ 1 2).mono ?_
  rintro e w1 ⟨rfl, rfl⟩
  refine hK.out _ _ ?_; clear hK; clear K
  (try simp only [Act.put, List.setIfInBounds_toArray, List.set_cons_zero, List.set_cons_succ])
  (refine seq_pure (v := ?_) (by rfl) ?_ ?_; rotate_left; focus (intro wq; first | (go_simp; done) | (go_simp; with_reducible rfl))); (try simp only [Act.put, List.setIfInBounds_toArray, List.set_cons_zero, List.set_cons_succ])
  (refine seq_pure (v := ?_) (by rfl) ?_ ?_; rotate_left; focus (intro wq; first | (go_simp; done) | (go_simp; with_reducible rfl))); (try simp only [Act.put, List.setIfInBounds_toArray, List.set_cons_zero, List.set_cons_succ])
  refine seq_do (fun K hK => ?_)
  go_simp
  refine hK.out _ _ ?_; clear hK; clear K
  (try simp only [Act.put, List.setIfInBounds_toArray, List.set_cons_zero, List.set_cons_succ])
  refine seq_nil ?_
  go_wp2_with fail
  rw [rounds_succ]
  go_wp2_with (go_at_call 23; refine (begin_raw _ (w.heap.size + 2) 6 (cell_of_heap (by (simp only [alloc_get, alloc_size, drew_get]; (repeat (first | rw [if_pos (by omega)] | rw [if_neg (by omega)])); rfl)) rfl) (cell_of_heap (by (simp only [alloc_get, alloc_size, drew_get]; (repeat (first | rw [if_pos (by omega)] | rw [if_neg (by omega)])); rfl)) rfl)).mono ?_; rintro e w1 ⟨rfl, rfl⟩)
  go_ret
  refine ⟨rfl, ⟨rfl, rfl, ⟨[], 0, ⟨by (simp only [alloc_get, alloc_size, drew_get]; (repeat (first | rw [if_pos (by omega)] | rw [if_neg (by omega)])); rfl), by simp, by simp⟩, fun _ _ => rfl⟩, ⟨.slice none 0 0, by (simp only [alloc_get, alloc_size, drew_get]; (repeat (first | rw [if_pos (by omega)] | rw [if_neg (by omega)])); rfl), rfl, World.ownsRow_nil _ _ _ _⟩, by simp⟩, by (simp only [alloc_get, alloc_size, drew_get]; (repeat (first | rw [if_pos (by omega)] | rw [if_neg (by omega)])); rfl), by (simp only [alloc_get, alloc_size, drew_get]; (repeat (first | rw [if_pos (by omega)] | rw [if_neg (by omega)])); rfl), (((((((Keeps.refl _ _).alloc _).alloc _).alloc _).alloc _).alloc _).alloc _).drew.drew⟩
end Go.Proofs.Sess
