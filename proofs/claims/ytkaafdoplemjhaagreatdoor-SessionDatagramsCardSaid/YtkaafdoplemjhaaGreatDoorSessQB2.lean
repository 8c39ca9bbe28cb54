/- A part of the proof that a session of datagrams answers as the reference (SessionDatagrams). Its contents: contracts of functions of the program, each stated with its premises. -/
import Derived.Test.YtkaafdoplemjhaaGreatDoorProg
import Derived.Test.YtkaafdoplemjhaaGreatDoorSessQA0
import Derived.Test.YtkaafdoplemjhaaGreatDoorSessQA2
import Derived.Lib.Hide
import Derived.Lib.SlBytesRow
import Derived.LoopN
namespace Go.Proofs.Sess
open Go Go.RowKit

/-- A slice of bytes that is read alone: its bytes are those of s. -/
def RowB (w : World) (v : Value) (s : ByteArray) : Prop :=
  (s.size = 0 ∧ ∃ a c, v = .slice a 0 c ∧ (a = none → c = 0)) ∨ ∃ g o c, v = .slice (some ⟨g, o, none⟩) s.size c ∧ s.size ≤ c ∧ Lib.Bytes w g o s

theorem alloc_get (w : World) (o : Obj) (k : Nat) : (w.alloc o).heap[k]? = if k = w.heap.size then some o else w.heap[k]? := by
  show (w.heap.push o)[k]? = _
  rw [Array.getElem?_push]
theorem alloc_size (w : World) (o : Obj) : (w.alloc o).heap.size = w.heap.size + 1 := by
  show (w.heap.push o).size = _
  simp
theorem drew_get (w : World) (k : Nat) : w.drew.heap[k]? = w.heap[k]? := rfl
theorem drew_size (w : World) : w.drew.heap.size = w.heap.size := rfl

/-- A window. -/
def WinObj (kind dir : Int) (i n : Nat) (v : Value) : Obj := .cells #[.int .i64 kind, .int .i64 dir, .int .i64 (i : Int), .int .i64 (n : Int), v] 77 (0, 0)

set_option maxHeartbeats 400000 in
theorem winNew_any (w : World) (kind dir : Int) : Calls Tryz.prog 22 #[.int .i64 kind, .int .i64 dir] w fun e w' => e = .returned (.pointer (some ⟨w.heap.size, 0, none⟩)) ∧ w' = w.alloc (WinObj kind dir 0 0 (.slice none 0 0)) := by
  go_enter Tryz.func22, Tryz.ntmps22
  go_wp2
  go_ret
  exact ⟨rfl, rfl⟩
end Go.Proofs.Sess
namespace Go.Proofs.Sess
open Go Go.RowKit

set_option maxHeartbeats 400000 in
theorem bound_512 (w : World) : Calls Tryz.prog 112 #[.int .i64 512] w fun e w' => e = .returned (.int .i64 512) ∧ w = w' := by
  go_enter Tryz.func112, Tryz.ntmps112
  go_wp2
  go_ret
  exact ⟨rfl, rfl⟩

/-- A splitter of lines. -/
def SplitObj (v : Value) (n : Nat) (ends : Bool) : Obj := .cells #[.int .i64 512, v, .int .i64 (n : Int), .bool ends] 211 (0, 0)

set_option maxHeartbeats 400000 in
theorem linesNew (w : World) : Calls Tryz.prog 87 #[.int .i64 512] w fun e w' => e = .returned (.pointer (some ⟨w.heap.size, 0, none⟩)) ∧ w' = w.alloc (SplitObj (.slice none 0 0) 0 false) := by
  go_enter Tryz.func87, Tryz.ntmps87
  go_wp2_with (go_at_call 112; refine (bound_512 _).mono ?_; rintro e w' ⟨rfl, rfl⟩)
  go_ret
  exact ⟨rfl, rfl⟩

/-- A parser of HTTP messages, before the first byte. -/
def HttpMsg0 (req : Bool) (s : Nat) : Array Value :=
  #[.bool req, .pointer (some ⟨s, 0, none⟩), .int .i64 0, .bool false, .slice none 0 0, .string ⟨#[]⟩, .string ⟨#[]⟩, .int .i64 0, .bool false, .int .i64 0, .string ⟨#[]⟩, .string ⟨#[]⟩, .slice none 0 0, .slice none 0 0, .pointer none, .int .i64 0, .slice none 0 0]

set_option maxHeartbeats 400000 in
theorem httpmsgNew (w : World) (dir : Int) : Calls Tryz.prog 61 #[.int .i64 dir] w fun e w' => e = .returned (.pointer (some ⟨w.heap.size + 1, 0, none⟩)) ∧
    w' = (w.alloc (SplitObj (.slice none 0 0) 0 false)).alloc (.cells (HttpMsg0 (dir == 1) w.heap.size) 177 (0, 0)) := by
  go_enter Tryz.func61, Tryz.ntmps61
  go_wp2_with (go_at_call 87; refine (linesNew _).mono ?_; rintro e w' ⟨rfl, rfl⟩)
  go_ret
  exact ⟨by simp, rfl⟩
end Go.Proofs.Sess
namespace Go.Proofs.Sess
open Go Go.RowKit

/-- The parsers of HTTP. -/
def HttpObj (b : Nat) (x : List Value) (names : Value) : Obj := .cells (#[.pointer (some ⟨b, 0, none⟩)] ++ x.toArray ++ #[names]) 133 (0, 0)
def HttpSide (p b : Option Nat) (name : ByteArray) : List Value := [.pointer (p.map fun k => ⟨k, 0, none⟩), .pointer (b.map fun k => ⟨k, 0, none⟩), .string name]

/-- The world behind newHttp: the struct, the list of directions, the parsers. -/
def HttpNew (w : World) (b : Nat) (e : Ending) (w' : World) : Prop :=
  e = .returned (.iface 126 (.pointer (some ⟨w.heap.size, 0, none⟩))) ∧
  w'.heap[w.heap.size]? = some (.cells #[.pointer (some ⟨b, 0, none⟩), .pointer none, .pointer none, .string ⟨#[]⟩, .pointer (some ⟨w.heap.size + 3, 0, none⟩), .pointer none, .string ⟨#[]⟩, .pointer (some ⟨w.heap.size + 5, 0, none⟩), .pointer none, .string ⟨#[]⟩, .slice none 0 0] 133 (0, 0)) ∧
  w'.heap[w.heap.size + 2]? = some (SplitObj (.slice none 0 0) 0 false) ∧ w'.heap[w.heap.size + 3]? = some (.cells (HttpMsg0 true (w.heap.size + 2)) 177 (0, 0)) ∧
  w'.heap[w.heap.size + 4]? = some (SplitObj (.slice none 0 0) 0 false) ∧ w'.heap[w.heap.size + 5]? = some (.cells (HttpMsg0 false (w.heap.size + 4)) 177 (0, 0)) ∧ Keeps [] w w'

set_option maxRecDepth 100000 in
set_option maxHeartbeats 1600000 in
theorem newHttp_any (w : World) (b : Nat) : Calls Tryz.prog 40 #[.pointer (some ⟨b, 0, none⟩)] w (HttpNew w b) := by
  go_enter Tryz.func40, Tryz.ntmps40
  go_wp2_with fail
  refine wp_loop_rounds 3 ?_
  rw [rounds_succ]
  go_wp2_with fail
  refine wp_region_seq (fun _ => True)
    [(0, 0), (1, 0), (2, 0), (4, 0), (5, 0), (3, 3), (6, 0), (7, 0), (8, 3)]
    [] (by kernel_rfl) (by kernel_rfl) (fun d _ _ _ _ h => by cases d <;> exact h) ?_
  simp only [picks, List.getD_cons_succ, List.getD_cons_zero]
  (refine seq_pure (v := ?_) (by rfl) ?_ ?_; rotate_left; focus (intro wq; first | (go_simp; done) | (go_simp; with_reducible rfl))); (try simp only [Act.put, List.setIfInBounds_toArray, List.set_cons_zero, List.set_cons_succ])
  (refine seq_pure (v := ?_) (by rfl) ?_ ?_; rotate_left; focus (intro wq; first | (go_simp; done) | (go_simp; with_reducible rfl))); (try simp only [Act.put, List.setIfInBounds_toArray, List.set_cons_zero, List.set_cons_succ])
  (refine seq_pure (v := ?_) (by rfl) ?_ ?_; rotate_left; focus (intro wq; first | (go_simp; done) | (go_simp; with_reducible rfl))); (try simp only [Act.put, List.setIfInBounds_toArray, List.set_cons_zero, List.set_cons_succ])
  (refine seq_pure (v := ?_) (by rfl) ?_ ?_; rotate_left; focus (intro wq; first | (go_simp; done) | (go_simp; with_reducible rfl))); (try simp only [Act.put, List.setIfInBounds_toArray, List.set_cons_zero, List.set_cons_succ])
  (refine seq_pure (v := ?_) (by rfl) ?_ ?_; rotate_left; focus (intro wq; first | (go_simp; done) | (go_simp; with_reducible rfl))); (try simp only [Act.put, List.setIfInBounds_toArray, List.set_cons_zero, List.set_cons_succ])
  refine seq_do (fun K hK => ?_)
  go_simp
  refine (httpmsgNew _ 1).mono ?_
  rintro e w1 ⟨rfl, rfl⟩
  refine hK.out _ _ ?_; clear hK; clear K
  (try simp only [Act.put, List.setIfInBounds_toArray, List.set_cons_zero, List.set_cons_succ])
  (refine seq_pure (v := ?_) (by rfl) ?_ ?_; rotate_left; focus (intro wq; first | (go_simp; done) | (go_simp; with_reducible rfl))); (try simp only [Act.put, List.setIfInBounds_toArray, List.set_cons_zero, List.set_cons_succ])
  (refine seq_pure (v := ?_) (by rfl) ?_ ?_; rotate_left; focus (intro wq; first | (go_simp; done) | (go_simp; with_reducible rfl))); (try simp only [Act.put, List.setIfInBounds_toArray, List.set_cons_zero, List.set_cons_succ])
  refine seq_do (fun K hK => ?_)
  go_simp
  refine hK.out _ _ ?_; clear hK; clear K
  (try simp only [Act.put, List.setIfInBounds_toArray, List.set_cons_zero, List.set_cons_succ])
  refine seq_nil ?_
  go_wp2_with fail
  rw [rounds_succ]
  go_wp2_with fail
  refine wp_region_seq (fun _ => True)
    [(0, 0), (1, 0), (2, 0), (4, 0), (5, 0), (3, 3), (6, 0), (7, 0), (8, 3)]
    [] (by kernel_rfl) (by kernel_rfl) (fun d _ _ _ _ h => by cases d <;> exact h) ?_
  simp only [picks, List.getD_cons_succ, List.getD_cons_zero]
  (refine seq_pure (v := ?_) (by rfl) ?_ ?_; rotate_left; focus (intro wq; first | (go_simp; done) | (go_simp; with_reducible rfl))); (try simp only [Act.put, List.setIfInBounds_toArray, List.set_cons_zero, List.set_cons_succ])
  (refine seq_pure (v := ?_) (by rfl) ?_ ?_; rotate_left; focus (intro wq; first | (go_simp; done) | (go_simp; with_reducible rfl))); (try simp only [Act.put, List.setIfInBounds_toArray, List.set_cons_zero, List.set_cons_succ])
  (refine seq_pure (v := ?_) (by rfl) ?_ ?_; rotate_left; focus (intro wq; first | (go_simp; done) | (go_simp; with_reducible rfl))); (try simp only [Act.put, List.setIfInBounds_toArray, List.set_cons_zero, List.set_cons_succ])
  (refine seq_pure (v := ?_) (by rfl) ?_ ?_; rotate_left; focus (intro wq; first | (go_simp; done) | (go_simp; with_reducible rfl))); (try simp only [Act.put, List.setIfInBounds_toArray, List.set_cons_zero, List.set_cons_succ])
  (refine seq_pure (v := ?_) (by rfl) ?_ ?_; rotate_left; focus (intro wq; first | (go_simp; done) | (go_simp; with_reducible rfl))); (try simp only [Act.put, List.setIfInBounds_toArray, List.set_cons_zero, List.set_cons_succ])
  refine seq_do (fun K hK => ?_)
  go_simp
  refine (httpmsgNew _ 2).mono ?_
  rintro e w1 ⟨rfl, rfl⟩
  refine hK.out _ _ ?_; clear hK; clear K
  (try simp only [Act.put, List.setIfInBounds_toArray, List.set_cons_zero, List.set_cons_succ])
  (refine seq_pure (v := ?_) (by rfl) ?_ ?_; rotate_left; focus (intro wq; first | (go_simp; done) | (go_simp; with_reducible rfl))); (try simp only [Act.put, List.setIfInBounds_toArray, List.set_cons_zero, List.set_cons_succ])
  (refine seq_pure (v := ?_) (by rfl) ?_ ?_; rotate_left; focus (intro wq; first | (go_simp; done) | (go_simp; with_reducible rfl))); (try simp only [Act.put, List.setIfInBounds_toArray, List.set_cons_zero, List.set_cons_succ])
  refine seq_do (fun K hK => ?_)
  go_simp
  refine hK.out _ _ ?_; clear hK; clear K
  (try simp only [Act.put, List.setIfInBounds_toArray, List.set_cons_zero, List.set_cons_succ])
  refine seq_nil ?_
  go_wp2_with fail
  rw [rounds_succ]
  go_wp2_with fail
  go_ret
  refine ⟨rfl, ?_, ?_, ?_, ?_, ?_, (((((((Keeps.refl _ _).alloc _).alloc _).alloc _).alloc _).alloc _).alloc _).drew.drew⟩ <;> (simp only [alloc_get, alloc_size, drew_get]; (repeat (first | rw [if_pos (by omega)] | rw [if_neg (by omega)])); rfl)
end Go.Proofs.Sess
