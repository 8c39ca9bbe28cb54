/- A part of the proof that a session of datagrams answers as the reference (SessionDatagrams). Its contents: contracts of functions of the program, each stated with its premises. -/
import Derived.Test.YtkaafdoplemjhaaGreatDoorSessQB8
import Derived.Test.YtkaafdoplemjhaaGreatDoorSessQA4
import Derived.Test.YtkaafdoplemjhaaGreatDoorSessQB9
import Derived.Shelf.Abstract
import Derived.Deep.Cut
import Derived.Test.YtkaafdoplemjhaaGreatDoorSessQA3
namespace Go.Proofs.Sess
open Go Go.RowKit

set_option maxRecDepth 100000 in
set_option maxHeartbeats 800000 in
/-- The windows that are complete: none. -/
theorem complete_none (w : World) (wb : Nat) (y : Value) (a : Option Addr) (l c : Nat) (h4 : w.cell? ⟨wb, 4, none⟩ = some (.slice a l c)) (hl : l < 1024) :
    Calls Tryz.prog 59 #[.pointer (some ⟨wb, 0, none⟩), y] w fun e w' => e = .returned (.tuple #[]) ∧ w = w' := by
  have hl' : (l : Int) < 1024 := by omega
  go_enter Tryz.func59, Tryz.ntmps59
  go_wp2_with fail
  refine wp_loop_rounds 1 ?_
  rw [rounds_succ]
  go_wp2_with fail
  go_end0
  exact ⟨rfl, rfl⟩

theorem info5 : (Tryz.prog.info? 5).map (fun i => (i.zero, i.size, i.bytes)) = some (some (.int .u8 0), 1, 1) := by kernel_rfl

/-- The window behind its first bytes. -/
def WinFed (w : World) (wb : Nat) (kind dir : Int) (i n : Nat) (s : ByteArray) (e : Ending) (w' : World) : Prop :=
  e = .returned (.slice none 0 0) ∧ ∃ g c, w.heap.size ≤ g ∧ w'.heap[wb]? = some (WinObj kind dir i n (.slice (some ⟨g, 0, none⟩) s.size c)) ∧ Lib.Bytes w' g 0 s ∧ s.size ≤ c ∧ Keeps [wb] w w'

set_option maxRecDepth 100000 in
set_option maxHeartbeats 4000000 in
theorem winFeed_first (w : World) (wb : Nat) (kind dir : Int) (i n : Nat) (s : ByteArray) (h : w.heap[wb]? = some (WinObj kind dir i n (.slice none 0 0))) (hs : s.size ≠ 0) (hs2 : s.size < 1024) :
    Calls Tryz.prog 38 #[.pointer (some ⟨wb, 0, none⟩), .string s] w (WinFed w wb kind dir i n s) := by
  obtain ⟨i0, hi0, hz0, hz1, hz2⟩ := info_parts info5
  have hwl : wb < w.heap.size := lt_of_heap h
  have hne : wb ≠ w.heap.size := by omega
  have ha : (w.alloc (.cells #[.pointer (some ⟨wb, 0, none⟩)] 52)).drew.heap[wb]? = some (WinObj kind dir i n (.slice none 0 0)) := (heap_alloc_far hwl).trans h
  have hb : (w.alloc (.cells #[.pointer (some ⟨wb, 0, none⟩)] 52)).drew.heap[w.heap.size]? = some (.cells #[.pointer (some ⟨wb, 0, none⟩)] 52 (0, 0)) := heap_alloc_self
  have hk0 : Keeps [wb] w (w.alloc (.cells #[.pointer (some ⟨wb, 0, none⟩)] 52)).drew := ((Keeps.refl _ _).alloc _).drew
  have hsz : (w.alloc (.cells #[.pointer (some ⟨wb, 0, none⟩)] 52)).drew.heap.size = w.heap.size + 1 := alloc_size _ _
  have HB := Lib.hid (And.intro ha (And.intro hb (And.intro hk0 hsz)))
  clear h ha hb hk0 hsz
  refine callsIn_wide.1 (callsIn_of_wp_marks (F := Fence.wide) (n := 3) Tryz.func38 rfl trivial (wpIn_wide.2 ?_))
  simp only [Tryz.ntmps38, List.size_toArray, List.length_cons, List.length_nil, Nat.reduceAdd, Nat.reduceSub, Array.replicate_succ, Array.replicate_zero, List.push_toArray, List.append_toArray, List.nil_append, List.cons_append]
  go_wp2_with fail
  refine wp_calm ?_
  have hS : (fun wx : World => wx.cell? ⟨w.heap.size, 0, none⟩ = some (.pointer (some ⟨wb, 0, none⟩)) ∧ wx.cell? ⟨wb, 4, none⟩ = some (.slice none 0 0)) (w.alloc (.cells #[.pointer (some ⟨wb, 0, none⟩)] 52)).drew := ⟨cell_of_heap HB.out.2.1 rfl, cell_of_heap HB.out.1 rfl⟩
  refine wp_region_seq (fun wx : World => wx.cell? ⟨w.heap.size, 0, none⟩ = some (.pointer (some ⟨wb, 0, none⟩)) ∧ wx.cell? ⟨wb, 4, none⟩ = some (.slice none 0 0))
    [(0, 1), (1, 1), (2, 0), (3, 0), (4, 1), (5, 1), (6, 0), (7, 0), (8, 1), (9, 0), (10, 1), (11, 0), (12, 0), (13, 1), (14, 0), (15, 0), (16, 0), (17, 2), (18, 0), (19, 0), (20, 3)]
    [[20, 0], [20, 1], [20, 4], [20, 5], [20, 8], [20, 10], [20, 13]] (by kernel_rfl) (by kernel_rfl) (fun d _ _ _ _ h => by cases d <;> exact h) ?_
  simp only [picks, List.getD_cons_succ, List.getD_cons_zero]
  (refine seq_read (v := ?_) hS (by rfl) ?_ ?_; rotate_left; focus (intro wq hSq; obtain ⟨hq1, hq2⟩ := hSq; first | (go_simp; done) | (go_simp; with_reducible rfl))); (try simp only [Act.put, List.setIfInBounds_toArray, List.set_cons_zero, List.set_cons_succ])
  (refine seq_read (v := ?_) hS (by rfl) ?_ ?_; rotate_left; focus (intro wq hSq; obtain ⟨hq1, hq2⟩ := hSq; first | (go_simp; done) | (go_simp; with_reducible rfl))); (try simp only [Act.put, List.setIfInBounds_toArray, List.set_cons_zero, List.set_cons_succ])
  (refine seq_pure (v := ?_) (by rfl) ?_ ?_; rotate_left; focus (intro wq; first | (go_simp; done) | (go_simp; with_reducible rfl))); (try simp only [Act.put, List.setIfInBounds_toArray, List.set_cons_zero, List.set_cons_succ])
  (refine seq_pure (v := ?_) (by rfl) ?_ ?_; rotate_left; focus (intro wq; first | (go_simp; done) | (go_simp; with_reducible rfl))); (try simp only [Act.put, List.setIfInBounds_toArray, List.set_cons_zero, List.set_cons_succ])
  (refine seq_read (v := ?_) hS (by rfl) ?_ ?_; rotate_left; focus (intro wq hSq; obtain ⟨hq1, hq2⟩ := hSq; first | (go_simp; done) | (go_simp; with_reducible rfl))); (try simp only [Act.put, List.setIfInBounds_toArray, List.set_cons_zero, List.set_cons_succ])
  (refine seq_read (v := ?_) hS (by rfl) ?_ ?_; rotate_left; focus (intro wq hSq; obtain ⟨hq1, hq2⟩ := hSq; first | (go_simp; done) | (go_simp; with_reducible rfl))); (try simp only [Act.put, List.setIfInBounds_toArray, List.set_cons_zero, List.set_cons_succ])
  (refine seq_pure (v := ?_) (by rfl) ?_ ?_; rotate_left; focus (intro wq; first | (go_simp; done) | (go_simp; with_reducible rfl))); (try simp only [Act.put, List.setIfInBounds_toArray, List.set_cons_zero, List.set_cons_succ])
  (refine seq_pure (v := ?_) (by rfl) ?_ ?_; rotate_left; focus (intro wq; first | (go_simp; done) | (go_simp; with_reducible rfl))); (try simp only [Act.put, List.setIfInBounds_toArray, List.set_cons_zero, List.set_cons_succ])
  (refine seq_read (v := ?_) hS (by rfl) ?_ ?_; rotate_left; focus (intro wq hSq; obtain ⟨hq1, hq2⟩ := hSq; first | (go_simp; done) | (go_simp; with_reducible rfl))); (try simp only [Act.put, List.setIfInBounds_toArray, List.set_cons_zero, List.set_cons_succ])
  (refine seq_pure (v := ?_) (by rfl) ?_ ?_; rotate_left; focus (intro wq; first | (go_simp; done) | (go_simp; with_reducible rfl))); (try simp only [Act.put, List.setIfInBounds_toArray, List.set_cons_zero, List.set_cons_succ])
  (refine seq_read (v := ?_) hS (by rfl) ?_ ?_; rotate_left; focus (intro wq hSq; obtain ⟨hq1, hq2⟩ := hSq; first | (go_simp; done) | (go_simp; with_reducible rfl))); (try simp only [Act.put, List.setIfInBounds_toArray, List.set_cons_zero, List.set_cons_succ])
  (refine seq_pure (v := ?_) (by rfl) ?_ ?_; rotate_left; focus (intro wq; first | (go_simp; done) | (go_simp; with_reducible rfl))); (try simp only [Act.put, List.setIfInBounds_toArray, List.set_cons_zero, List.set_cons_succ])
  (refine seq_pure (v := ?_) (by rfl) ?_ ?_; rotate_left; focus (intro wq; first | (go_simp; done) | (go_simp; with_reducible rfl))); (try simp only [Act.put, List.setIfInBounds_toArray, List.set_cons_zero, List.set_cons_succ])
  (refine seq_read (v := ?_) hS (by rfl) ?_ ?_; rotate_left; focus (intro wq hSq; obtain ⟨hq1, hq2⟩ := hSq; first | (go_simp; done) | (go_simp; with_reducible rfl))); (try simp only [Act.put, List.setIfInBounds_toArray, List.set_cons_zero, List.set_cons_succ])
  (refine seq_pure (v := ?_) (by rfl) ?_ ?_; rotate_left; focus (intro wq; first | (go_simp; done) | (go_simp; with_reducible rfl))); (try simp only [Act.put, List.setIfInBounds_toArray, List.set_cons_zero, List.set_cons_succ])
  (refine seq_pure (v := ?_) (by rfl) ?_ ?_; rotate_left; focus (intro wq; first | (go_simp; done) | (go_simp; with_reducible rfl))); (try simp only [Act.put, List.setIfInBounds_toArray, List.set_cons_zero, List.set_cons_succ])
  (refine seq_pure (v := ?_) (by rfl) ?_ ?_; rotate_left; focus (intro wq; first | (go_simp; done) | (go_simp; with_reducible rfl))); (try simp only [Act.put, List.setIfInBounds_toArray, List.set_cons_zero, List.set_cons_succ])
  refine seq_act (fun K hK => ?_)
  refine step_append_string_nil (by rfl) _ _ 75 9 (by rfl) 5 i0 Tryz.underlying75 Tryz.underlying9 hi0 hz0 hz1 hz2 (by rfl) s (by rfl) hs (by omega) ?_
  intro g c w1 hg hc hown hgrow
  have hg1 : w.heap.size + 1 ≤ g := by have := HB.out.2.2.2; omega
  have hw1 : w1.heap[wb]? = some (WinObj kind dir i n (.slice none 0 0)) := (hgrow.block _ (by rw [HB.out.2.2.2]; omega) (by simp)).trans HB.out.1
  have hx1 : w1.heap[w.heap.size]? = some (.cells #[.pointer (some ⟨wb, 0, none⟩)] 52 (0, 0)) := (hgrow.block _ (by rw [HB.out.2.2.2]; omega) (by simp)).trans HB.out.2.1
  have hk1 : Keeps [wb] w w1 := HB.out.2.2.1.grown hgrow (by simp)
  have hby : Lib.Bytes w1 g 0 s := bytes_of_own hown
  have f4 : w1.frozen? ⟨wb, 4, none⟩ = false := free_of_heap hw1
  have hs1 : w.heap.size + 1 ≤ w1.heap.size := by have := hgrow.size; rw [HB.out.2.2.2] at this; exact this
  have H1 := Lib.hid (And.intro hw1 (And.intro hx1 (And.intro hk1 (And.intro hby hs1))))
  clear hown hgrow hw1 hx1 hk1 hby hg
  have hS1 : (fun wx : World => wx.cell? ⟨w.heap.size, 0, none⟩ = some (.pointer (some ⟨wb, 0, none⟩)) ∧ wx.cell? ⟨wb, 4, none⟩ = some (.slice none 0 0)) w1 := ⟨cell_of_heap H1.out.2.1 rfl, cell_of_heap H1.out.1 rfl⟩
  refine hK.out _ _ hS1 ?_; clear hK; clear K
  (try simp only [Act.put, List.setIfInBounds_toArray, List.set_cons_zero, List.set_cons_succ])
  (refine seq_pure (v := ?_) (by rfl) ?_ ?_; rotate_left; focus (intro wq; first | (go_simp; done) | (go_simp; with_reducible rfl))); (try simp only [Act.put, List.setIfInBounds_toArray, List.set_cons_zero, List.set_cons_succ])
  (refine seq_pure (v := ?_) (by rfl) ?_ ?_; rotate_left; focus (intro wq; first | (go_simp; done) | (go_simp; with_reducible rfl))); (try simp only [Act.put, List.setIfInBounds_toArray, List.set_cons_zero, List.set_cons_succ])
  refine seq_do (fun K hK => ?_)
  go_simp
  refine hK.out _ _ ?_; clear hK; clear K
  (try simp only [Act.put, List.setIfInBounds_toArray, List.set_cons_zero, List.set_cons_succ])
  refine seq_nil ?_
  clear hS hS1
  obtain ⟨w2, hw2⟩ : ∃ w2, w1.setCell ⟨wb, 4, none⟩ (.slice (some ⟨g, 0, none⟩) s.size c) = w2 := ⟨_, rfl⟩
  rw [hw2]
  have c4 : w2.heap[wb]? = some (WinObj kind dir i n (.slice (some ⟨g, 0, none⟩) s.size c)) := by rw [← hw2, heap_setCell_self H1.out.1]; rfl
  have c2 : w2.heap[w.heap.size]? = some (.cells #[.pointer (some ⟨wb, 0, none⟩)] 52 (0, 0)) := by rw [← hw2, heap_setCell_far (by simp; omega)]; exact H1.out.2.1
  have hk2 : Keeps [wb] w w2 := by rw [← hw2]; exact H1.out.2.2.1.setCell (by simp) _
  have hby : Lib.Bytes w2 g 0 s := fun j hj => by
    rw [← hw2]
    have := H1.out.2.2.2.1 j hj
    rw [← this]
    exact World.cell?_of_block (heap_setCell_far (by simp; omega) _)
  have hsz2 : w.heap.size + 1 ≤ w2.heap.size := by rw [← hw2]; simpa [World.setCell] using H1.out.2.2.2.2
  have d2 : w2.cell? ⟨w.heap.size, 0, none⟩ = some (.pointer (some ⟨wb, 0, none⟩)) := cell_of_heap c2 rfl
  have hl2 := hsz2
  have d3 : (w2.alloc (.cells #[.slice none 0 0] 34)).cell? ⟨w.heap.size, 0, none⟩ = some (.pointer (some ⟨wb, 0, none⟩)) := cell_of_heap ((heap_alloc_far (by omega)).trans c2) rfl
  have H2 := Lib.hid (And.intro c4 (And.intro c2 (And.intro hk2 (And.intro hby hsz2))))
  clear c4 c2 hk2 hby hsz2 H1 HB hw2
  go_wp2_with fail
  obtain ⟨w3, hw3⟩ : ∃ w3, w2.alloc (.cells #[.slice none 0 0] 34) = w3 := ⟨_, rfl⟩
  have hl3 : w3.heap.size = w2.heap.size + 1 := by rw [← hw3]; exact alloc_size _ _
  have e3 : w3.heap[w2.heap.size]? = some (.cells #[.slice none 0 0] 34 (0, 0)) := by rw [← hw3]; exact heap_alloc_self
  have hk3 : Keeps [] w2 w3 := by rw [← hw3]; exact (Keeps.refl _ _).alloc _
  have H3 := Lib.hid (And.intro e3 hk3)
  rw [hw3]
  clear hw3 d2 d3 e3 hk3
  have hcell : ∀ W, Keeps [] w3 W → W.cell? ⟨wb, 4, none⟩ = some (.slice (some ⟨g, 0, none⟩) s.size c) := fun W hW => hW.cell (cell_of_heap (H3.out.2.heap H2.out.1 (by simp)) rfl) (by simp)
  refine wp_rangeFunc_calm (f := 59) (first := #[.pointer (some ⟨wb, 0, none⟩)]) rfl (enters_of Tryz.func59 (by kernel_rfl) rfl) (fun y W hW => (complete_none W wb y _ s.size c (hcell W hW) hs2).mono ?_) ?_
  · rintro e w' ⟨rfl, rfl⟩; exact ⟨⟨_, rfl⟩, rfl⟩
  intro W hW hD hsW
  have hWc : W.cell? ⟨w2.heap.size, 0, none⟩ = some (.slice none 0 0) := hW.cell (cell_of_heap H3.out.1 rfl) (by simp)
  have HW := Lib.hid (And.intro hW (And.intro hD hsW))
  clear hW hD hsW hcell
  go_wp2_with fail
  refine ⟨by simp, .inl ⟨_, _, rfl, run_takeDeferred HW.out.2.1, ?_⟩⟩
  refine ⟨_, results_tmp rfl _ _ _, ?_⟩
  have hkf : Keeps [] w2 (W.putObj w3.heap.size (.deferred none)) := by
    refine (H3.out.2.trans HW.out.1 (by simp)).trans (T := [w3.heap.size]) ⟨rfl, rfl, rfl, by simp [World.putObj], fun k hk hn => World.putObj_heap_other (fun e => hn (by simp [e]))⟩ (fun x hx hl => ?_)
    simp at hx; omega
  refine ⟨rfl, g, c, by omega, hkf.heap H2.out.1 (by simp), fun j hj => hkf.cell (H2.out.2.2.2.1 j hj) (by simp), hc, H2.out.2.2.1.trans hkf (by simp)⟩
end Go.Proofs.Sess
namespace Go.Proofs.Sess
open Go Go.RowKit

/-- A window's buffer of bytes, and the next index. -/
def WinBuf (w : World) (wb : Nat) (kind dir : Int) (i n : Nat) (v : Value) (s : ByteArray) (e : Ending) (w' : World) : Prop :=
  e = .returned (.agg #[.int .i64 kind, .int .i64 dir, .int .i64 (i : Int), .string s]) ∧ w'.heap[wb]? = some (WinObj kind dir (i + 1) n v) ∧ Keeps [wb] w w'

set_option maxRecDepth 100000 in
set_option maxHeartbeats 4000000 in
theorem winBuffer (w : World) (wb : Nat) (kind dir : Int) (i n : Nat) (v : Value) (g o c : Nat) (s : ByteArray) (h : w.heap[wb]? = some (WinObj kind dir i n v)) (hb : Lib.Bytes w g o s) (_hg : g < w.heap.size) (hi : i < 1000000) :
    Calls Tryz.prog 60 #[.pointer (some ⟨wb, 0, none⟩), .slice (some ⟨g, o, none⟩) s.size c] w (WinBuf w wb kind dir i n v s) := by
  have hwl : wb < w.heap.size := lt_of_heap h
  have hS0 : ∀ W, Keeps [] w W → (fun wx : World => wx.cell? ⟨wb, 0, none⟩ = some (.int .i64 kind) ∧ wx.cell? ⟨wb, 1, none⟩ = some (.int .i64 dir) ∧ wx.cell? ⟨wb, 2, none⟩ = some (.int .i64 (i : Int)) ∧ (convert 75 9 (.slice (some ⟨g, o, none⟩) s.size c)).run Tryz.prog wx = .ok (.string s) wx) W := fun W hW => by
    have h1 := hW.heap h (by simp)
    have hby : Lib.Bytes W g o s := fun j hj => hW.cell (hb j hj) (by simp)
    refine ⟨cell_of_heap h1 rfl, cell_of_heap h1 rfl, cell_of_heap h1 rfl, ?_⟩
    exact Lib.run_convert_whole W 75 5 9 Tryz.underlying75 Tryz.underlying5 Tryz.underlying9 g o s hby c
  have HS := Lib.hid hS0
  have HW := Lib.hid h
  clear h hb hS0
  go_enter Tryz.func60, Tryz.ntmps60
  go_wp2_with fail
  have hS := HS.out (w.alloc (.cells #[.int .i64 0, .int .i64 0, .int .i64 0, .string ⟨#[]⟩] 39)).drew ((Keeps.refl _ _).alloc _).drew
  refine wp_region_seq (fun wx : World => wx.cell? ⟨wb, 0, none⟩ = some (.int .i64 kind) ∧ wx.cell? ⟨wb, 1, none⟩ = some (.int .i64 dir) ∧ wx.cell? ⟨wb, 2, none⟩ = some (.int .i64 (i : Int)) ∧ (convert 75 9 (.slice (some ⟨g, o, none⟩) s.size c)).run Tryz.prog wx = .ok (.string s) wx)
    [(0, 0), (1, 0), (2, 0), (3, 1), (4, 0), (5, 0), (6, 0), (7, 1), (8, 0), (9, 0), (10, 0), (11, 1), (12, 0), (13, 1), (14, 0), (15, 2), (16, 3)]
    [[16, 3], [16, 7], [16, 11], [16, 13]] (by kernel_rfl) (by kernel_rfl) (fun d _ _ _ _ h => by cases d <;> exact h) ?_
  simp only [picks, List.getD_cons_succ, List.getD_cons_zero]
  (refine seq_pure (v := ?_) (by rfl) ?_ ?_; rotate_left; focus (intro wq; first | (go_simp; done) | (go_simp; with_reducible rfl))); (try simp only [Act.put, List.setIfInBounds_toArray, List.set_cons_zero, List.set_cons_succ])
  (refine seq_pure (v := ?_) (by rfl) ?_ ?_; rotate_left; focus (intro wq; first | (go_simp; done) | (go_simp; with_reducible rfl))); (try simp only [Act.put, List.setIfInBounds_toArray, List.set_cons_zero, List.set_cons_succ])
  (refine seq_pure (v := ?_) (by rfl) ?_ ?_; rotate_left; focus (intro wq; first | (go_simp; done) | (go_simp; with_reducible rfl))); (try simp only [Act.put, List.setIfInBounds_toArray, List.set_cons_zero, List.set_cons_succ])
  (refine seq_read (v := ?_) hS (by rfl) ?_ ?_; rotate_left; focus (intro wq hSq; obtain ⟨hq1, hq2, hq3, hq4⟩ := hSq; first | (go_simp; done) | (go_simp; with_reducible rfl))); (try simp only [Act.put, List.setIfInBounds_toArray, List.set_cons_zero, List.set_cons_succ])
  (refine seq_pure (v := ?_) (by rfl) ?_ ?_; rotate_left; focus (intro wq; first | (go_simp; done) | (go_simp; with_reducible rfl))); (try simp only [Act.put, List.setIfInBounds_toArray, List.set_cons_zero, List.set_cons_succ])
  (refine seq_pure (v := ?_) (by rfl) ?_ ?_; rotate_left; focus (intro wq; first | (go_simp; done) | (go_simp; with_reducible rfl))); (try simp only [Act.put, List.setIfInBounds_toArray, List.set_cons_zero, List.set_cons_succ])
  (refine seq_pure (v := ?_) (by rfl) ?_ ?_; rotate_left; focus (intro wq; first | (go_simp; done) | (go_simp; with_reducible rfl))); (try simp only [Act.put, List.setIfInBounds_toArray, List.set_cons_zero, List.set_cons_succ])
  (refine seq_read (v := ?_) hS (by rfl) ?_ ?_; rotate_left; focus (intro wq hSq; obtain ⟨hq1, hq2, hq3, hq4⟩ := hSq; first | (go_simp; done) | (go_simp; with_reducible rfl))); (try simp only [Act.put, List.setIfInBounds_toArray, List.set_cons_zero, List.set_cons_succ])
  (refine seq_pure (v := ?_) (by rfl) ?_ ?_; rotate_left; focus (intro wq; first | (go_simp; done) | (go_simp; with_reducible rfl))); (try simp only [Act.put, List.setIfInBounds_toArray, List.set_cons_zero, List.set_cons_succ])
  (refine seq_pure (v := ?_) (by rfl) ?_ ?_; rotate_left; focus (intro wq; first | (go_simp; done) | (go_simp; with_reducible rfl))); (try simp only [Act.put, List.setIfInBounds_toArray, List.set_cons_zero, List.set_cons_succ])
  (refine seq_pure (v := ?_) (by rfl) ?_ ?_; rotate_left; focus (intro wq; first | (go_simp; done) | (go_simp; with_reducible rfl))); (try simp only [Act.put, List.setIfInBounds_toArray, List.set_cons_zero, List.set_cons_succ])
  (refine seq_read (v := ?_) hS (by rfl) ?_ ?_; rotate_left; focus (intro wq hSq; obtain ⟨hq1, hq2, hq3, hq4⟩ := hSq; first | (go_simp; done) | (go_simp; with_reducible rfl))); (try simp only [Act.put, List.setIfInBounds_toArray, List.set_cons_zero, List.set_cons_succ])
  (refine seq_pure (v := ?_) (by rfl) ?_ ?_; rotate_left; focus (intro wq; first | (go_simp; done) | (go_simp; with_reducible rfl))); (try simp only [Act.put, List.setIfInBounds_toArray, List.set_cons_zero, List.set_cons_succ])
  (refine seq_read (v := ?_) hS (by rfl) ?_ ?_; rotate_left; focus (intro wq hSq; obtain ⟨hq1, hq2, hq3, hq4⟩ := hSq; first | (go_simp; done) | (go_simp; with_reducible rfl))); (try simp only [Act.put, List.setIfInBounds_toArray, List.set_cons_zero, List.set_cons_succ])
  (refine seq_pure (v := ?_) (by rfl) ?_ ?_; rotate_left; focus (intro wq; first | (go_simp; done) | (go_simp; with_reducible rfl))); (try simp only [Act.put, List.setIfInBounds_toArray, List.set_cons_zero, List.set_cons_succ])
  refine seq_act (fun K hK => ?_)
  go_simp
  have hS1 : (fun wx : World => wx.cell? ⟨wb, 0, none⟩ = some (.int .i64 kind) ∧ wx.cell? ⟨wb, 1, none⟩ = some (.int .i64 dir) ∧ wx.cell? ⟨wb, 2, none⟩ = some (.int .i64 (i : Int)) ∧ (convert 75 9 (.slice (some ⟨g, o, none⟩) s.size c)).run Tryz.prog wx = .ok (.string s) wx) ((w.alloc (.cells #[.int .i64 0, .int .i64 0, .int .i64 0, .string ⟨#[]⟩] 39)).drew.alloc (.cells #[.int .i64 0, .int .i64 0, .int .i64 0, .string ⟨#[]⟩] 39)) := HS.out _ (((Keeps.refl _ _).alloc _).drew.alloc _)
  refine hK.out _ _ hS1 ?_; clear hK; clear K
  (try simp only [Act.put, List.setIfInBounds_toArray, List.set_cons_zero, List.set_cons_succ])
  refine seq_do (fun K hK => ?_)
  go_simp
  refine hK.out _ _ ?_; clear hK; clear K
  (try simp only [Act.put, List.setIfInBounds_toArray, List.set_cons_zero, List.set_cons_succ])
  refine seq_nil ?_
  clear hS hS1
  obtain ⟨w2, hw2⟩ : ∃ w2, ((w.alloc (.cells #[.int .i64 0, .int .i64 0, .int .i64 0, .string ⟨#[]⟩] 39)).alloc (.cells #[.int .i64 kind, .int .i64 dir, .int .i64 (i : Int), .string s] 39)).drew = w2 := ⟨_, rfl⟩
  rw [hw2]
  have e0 : w2.heap[wb]? = some (WinObj kind dir i n v) := by rw [← hw2]; exact ((heap_alloc_far (by rw [alloc_size]; omega)).trans (heap_alloc_far hwl)).trans HW.out
  have e1 : w2.heap[w.heap.size]? = some (.cells #[.int .i64 0, .int .i64 0, .int .i64 0, .string ⟨#[]⟩] 39 (0, 0)) := by rw [← hw2]; exact (heap_alloc_far (by rw [alloc_size]; omega)).trans heap_alloc_self
  have e2 : w2.heap[w.heap.size + 1]? = some (.cells #[.int .i64 kind, .int .i64 dir, .int .i64 (i : Int), .string s] 39 (0, 0)) := by
    rw [← hw2]
    have := heap_alloc_self (w := w.alloc (.cells #[.int .i64 0, .int .i64 0, .int .i64 0, .string ⟨#[]⟩] 39)) (o := .cells #[.int .i64 kind, .int .i64 dir, .int .i64 (i : Int), .string s] 39)
    rw [alloc_size] at this
    exact this
  have hk : Keeps [wb] w w2 := by rw [← hw2]; exact (((Keeps.refl _ _).alloc _).alloc _).drew
  have hne1 : w.heap.size ≠ wb := by omega
  have hne2 : w.heap.size + 1 ≠ wb := by omega
  have c2 : w2.cell? ⟨wb, 2, none⟩ = some (.int .i64 (i : Int)) := cell_of_heap e0 rfl
  have f2 : w2.frozen? ⟨wb, 2, none⟩ = false := free_of_heap e0
  have E := Lib.hid (And.intro e0 (And.intro e1 (And.intro e2 hk)))
  clear e0 e1 e2 hk hw2
  go_upto_region 3 with fail
  obtain ⟨w3, hw3⟩ : ∃ w3, w2.setCell ⟨wb, 2, none⟩ (.int .i64 ((i : Int) + 1)) = w3 := ⟨_, rfl⟩
  rw [hw3]
  have g0 : w3.heap[wb]? = some (WinObj kind dir (i + 1) n v) := by rw [← hw3, heap_setCell_self E.out.1]; rfl
  have g1 : w3.heap[w.heap.size]? = some (.cells #[.int .i64 0, .int .i64 0, .int .i64 0, .string ⟨#[]⟩] 39 (0, 0)) := by rw [← hw3, heap_setCell_far hne1]; exact E.out.2.1
  have g2 : w3.heap[w.heap.size + 1]? = some (.cells #[.int .i64 kind, .int .i64 dir, .int .i64 (i : Int), .string s] 39 (0, 0)) := by rw [← hw3, heap_setCell_far hne2]; exact E.out.2.2.1
  have hk3 : Keeps [wb] w w3 := by rw [← hw3]; exact E.out.2.2.2.setCell (by simp) _
  have x0 : w3.cell? ⟨w.heap.size + 1, 0, none⟩ = some (.int .i64 kind) := cell_of_heap g2 rfl
  have x1 : w3.cell? ⟨w.heap.size + 1, 1, none⟩ = some (.int .i64 dir) := cell_of_heap g2 rfl
  have x2 : w3.cell? ⟨w.heap.size + 1, 2, none⟩ = some (.int .i64 (i : Int)) := cell_of_heap g2 rfl
  have x3 : w3.cell? ⟨w.heap.size + 1, 3, none⟩ = some (.string s) := cell_of_heap g2 rfl
  have G := Lib.hid (And.intro g0 (And.intro g1 hk3))
  have p0 : w3.frozen? ⟨w.heap.size, 0, none⟩ = false := free_of_heap g1
  have p1 : w3.frozen? ⟨w.heap.size, 1, none⟩ = false := free_of_heap g1
  have p2 : w3.frozen? ⟨w.heap.size, 2, none⟩ = false := free_of_heap g1
  have p3 : w3.frozen? ⟨w.heap.size, 3, none⟩ = false := free_of_heap g1
  have q0 : w3.cell? ⟨w.heap.size, 0, none⟩ = some (.int .i64 0) := cell_of_heap g1 rfl
  have q1 : w3.cell? ⟨w.heap.size, 1, none⟩ = some (.int .i64 0) := cell_of_heap g1 rfl
  have q2 : w3.cell? ⟨w.heap.size, 2, none⟩ = some (.int .i64 0) := cell_of_heap g1 rfl
  have q3 : w3.cell? ⟨w.heap.size, 3, none⟩ = some (.string ⟨#[]⟩) := cell_of_heap g1 rfl
  clear g0 g1 g2 hk3 hw3 E c2 f2
  go_wp2_with fail
  obtain ⟨w4, hw4⟩ : ∃ w4, ((((w3.setCell ⟨w.heap.size, 0, none⟩ (.int .i64 kind)).setCell ⟨w.heap.size, 1, none⟩ (.int .i64 dir)).setCell ⟨w.heap.size, 2, none⟩ (.int .i64 (i : Int))).setCell ⟨w.heap.size, 3, none⟩ (.string s)) = w4 := ⟨_, rfl⟩
  rw [hw4]
  have r1 : w4.heap[w.heap.size]? = some (.cells #[.int .i64 kind, .int .i64 dir, .int .i64 (i : Int), .string s] 39 (0, 0)) := by
    rw [← hw4]
    exact heap_setCell_self (heap_setCell_self (heap_setCell_self (heap_setCell_self G.out.2.1 _) _) _) _
  have r0 : w4.heap[wb]? = some (WinObj kind dir (i + 1) n v) := by
    rw [← hw4, heap_setCell_far (Ne.symm hne1), heap_setCell_far (Ne.symm hne1), heap_setCell_far (Ne.symm hne1), heap_setCell_far (Ne.symm hne1)]
    exact G.out.1
  have hk4 : Keeps [wb] w w4 := by
    rw [← hw4]
    exact (((G.out.2.2.setCell (by simp) _).setCell (by simp) _).setCell (by simp) _).setCell (by simp) _
  have y0 : w4.cell? ⟨w.heap.size, 0, none⟩ = some (.int .i64 kind) := cell_of_heap r1 rfl
  have y1 : w4.cell? ⟨w.heap.size, 1, none⟩ = some (.int .i64 dir) := cell_of_heap r1 rfl
  have y2 : w4.cell? ⟨w.heap.size, 2, none⟩ = some (.int .i64 (i : Int)) := cell_of_heap r1 rfl
  have y3 : w4.cell? ⟨w.heap.size, 3, none⟩ = some (.string s) := cell_of_heap r1 rfl
  refine bodyPost_ret (v := .agg #[.int .i64 kind, .int .i64 dir, .int .i64 (i : Int), .string s]) ?_ rfl ⟨rfl, r0, hk4⟩
  simp only [results, show Tryz.f60.results = #[ResultVar.cell 4 39] from rfl]
  go_simp
end Go.Proofs.Sess
namespace Go.Proofs.Sess
open Go Go.RowKit

/-- The last buffer of a window. -/
def WinGap (w : World) (wb : Nat) (kind dir : Int) (i : Nat) (s : ByteArray) (e : Ending) (w' : World) : Prop :=
  ∃ g c, e = .returned (.slice (some ⟨g, 0, none⟩) 1 c) ∧ w'.ownsRow 0 39 4 (.slice (some ⟨g, 0, none⟩) 1 c) 1 (bufsV [⟨kind, dir, i, s⟩]) ∧ w.heap.size ≤ g ∧ w'.heap[wb]? = some (WinObj kind dir (i + 1) 0 (.slice none 0 0)) ∧ Keeps [wb] w w'

set_option maxRecDepth 100000 in
set_option maxHeartbeats 4000000 in
theorem winGap_some (w : World) (wb : Nat) (kind dir : Int) (i : Nat) (g o c : Nat) (s : ByteArray) (h : w.heap[wb]? = some (WinObj kind dir i 0 (.slice (some ⟨g, o, none⟩) s.size c))) (hb : Lib.Bytes w g o s) (hg : g < w.heap.size) (hi : i < 1000000) (hs : s.size ≠ 0) :
    Calls Tryz.prog 44 #[.pointer (some ⟨wb, 0, none⟩)] w (WinGap w wb kind dir i s) := by
  obtain ⟨i0, hi0, hz0, hz1, hz2⟩ := info_parts info39
  have hwl : wb < w.heap.size := lt_of_heap h
  have c3 : w.cell? ⟨wb, 3, none⟩ = some (.int .i64 0) := cell_of_heap h rfl
  have c4 : w.cell? ⟨wb, 4, none⟩ = some (.slice (some ⟨g, o, none⟩) s.size c) := cell_of_heap h rfl
  have hsp : (0 : Int) < (s.size : Int) := by omega
  have HW := Lib.hid (And.intro h hb)
  clear h hb
  go_enter Tryz.func44, Tryz.ntmps44
  go_wp2_with (first
    | (go_at_call 60; refine (winBuffer _ wb kind dir i 0 _ g o c s HW.out.1 HW.out.2 hg hi).mono ?_; rintro e w1 ⟨rfl, h1, k1⟩; have hl1 := k1.size; have H1 := Lib.hid (And.intro h1 k1); clear h1 k1)
    | (refine wpList_append_lies _ (by rfl) _ _ _ (by rfl) w1.heap.size 39 i0 _ 4 40 Tryz.underlying34 hi0 hz0 hz1 hz2 rfl (by omega) (.slice none 0 0) 0 [] (by rfl) (World.ownsRow_nil _ _ _ _) ⟨w1.heap.size, 0, none⟩ 1 1 (bufV kind dir (i : Int) s) (by rfl) (by rfl) (World.news_of_block heap_alloc_self) (by simp [bufV, Value.oneCell']) (by omega) (by unfold maxLen; omega) (by omega) (by simp) (w1.heap.size + 1) (by simp) ?_
       intro gg cap w2 hown hgrow hat hlt
       have hgg : w.heap.size ≤ gg := by simp [Value.ownBlock] at hat; omega
       have hw2 : w2.heap[wb]? = some (WinObj kind dir (i + 1) 0 (.slice (some ⟨g, o, none⟩) s.size c)) := (hgrow.block _ (by simp; omega) (by simp [Value.ownBlock])).trans ((heap_alloc_far (by omega)).trans H1.out.1)
       have hk2 : Keeps [wb] w w2 := (H1.out.2.alloc _).grown hgrow (by simp [Value.ownBlock])
       have f3 : w2.frozen? ⟨wb, 3, none⟩ = false := free_of_heap hw2
       have f4 : w2.frozen? ⟨wb, 4, none⟩ = false := free_of_heap hw2
       have d3 : w2.cell? ⟨wb, 3, none⟩ = some (.int .i64 0) := cell_of_heap hw2 rfl
       have d4 : w2.cell? ⟨wb, 4, none⟩ = some (.slice (some ⟨g, o, none⟩) s.size c) := cell_of_heap hw2 rfl
       have hngg : wb ≠ gg := by omega
       have H2 := Lib.hid (And.intro hw2 (And.intro hk2 hown))
       clear hw2 hk2 hown hgrow hat H1))
  go_ret
  have hk : Keeps [wb] w2 ((w2.setCell ⟨wb, 4, none⟩ (.slice none 0 0)).setCell ⟨wb, 3, none⟩ (.int .i64 0)) := ((Keeps.refl _ _).setCell (by simp) _).setCell (by simp) _
  refine ⟨gg, cap, rfl, ⟨H2.out.2.2.1, ?_⟩, hgg, ?_, H2.out.2.1.trans hk (fun _ h _ => h)⟩
  · have := hk.own H2.out.2.2 (fun k h => by simp [Value.ownBlock] at h; simp; omega)
    rcases this.2 with h | ⟨g', cap', cur, h1, _, h2⟩
    · exact .inl h
    · exact .inr ⟨g', cap', cur, h1, Nat.zero_le _, h2⟩
  · rw [heap_setCell_self (heap_setCell_self H2.out.1 _)]; rfl

set_option maxHeartbeats 400000 in
theorem winClose_some (w : World) (wb : Nat) (kind dir : Int) (i : Nat) (g o c : Nat) (s : ByteArray) (h : w.heap[wb]? = some (WinObj kind dir i 0 (.slice (some ⟨g, o, none⟩) s.size c))) (hb : Lib.Bytes w g o s) (hg : g < w.heap.size) (hi : i < 1000000) (hs : s.size ≠ 0) :
    Calls Tryz.prog 33 #[.pointer (some ⟨wb, 0, none⟩)] w (WinGap w wb kind dir i s) := by
  have H := Lib.hid (winGap_some w wb kind dir i g o c s h hb hg hi hs)
  clear h hb
  go_enter Tryz.func33, Tryz.ntmps33
  go_wp2_with (go_at_call 44; refine H.out.mono ?_; rintro e w1 ⟨g1, c1, rfl, h1⟩; have H1 := Lib.hid h1; clear h1)
  go_ret
  exact ⟨g1, c1, rfl, H1.out⟩
end Go.Proofs.Sess
namespace Go.Proofs.Sess
open Go Go.RowKit

theorem toList_mk (a : Array UInt8) : (ByteArray.mk a).toList = a.toList := toList_eq _

set_option maxRecDepth 100000 in
set_option maxHeartbeats 800000 in
theorem hasPrefix_abcd (w : World) : Calls Tryz.prog 81 #[.string ⟨#[97, 98, 99, 100]⟩, .string ⟨#[22, 3]⟩] w fun e w' => e = .returned (.bool false) ∧ w = w' := by
  have hT := toList_mk
  have hX : (ByteArray.mk #[97, 98, 99, 100]).extract 0 2 = ⟨#[97, 98]⟩ := by rfl
  go_enter Tryz.func81, Tryz.ntmps81
  go_wp2
  go_ret
  exact ⟨rfl, rfl⟩

set_option maxRecDepth 100000 in
set_option maxHeartbeats 1600000 in
theorem appOf_abcd (w : World) : Calls Tryz.prog 56 #[.string ⟨#[97, 98, 99, 100]⟩] w fun e w' => e = .returned (.int .i64 0) ∧ w = w' := by
  have hT := toList_mk
  have hX : (ByteArray.mk #[97, 98, 99, 100]).extract 0 4 = ⟨#[97, 98, 99, 100]⟩ := by rfl
  go_enter Tryz.func56, Tryz.ntmps56
  go_wp2_with (go_at_call 81; refine (hasPrefix_abcd _).mono ?_; rintro e w1 ⟨rfl, rfl⟩)
  go_ret
  exact ⟨rfl, rfl⟩

set_option maxRecDepth 100000 in
set_option maxHeartbeats 1600000 in
theorem appOf_get (w : World) : Calls Tryz.prog 56 #[.string ⟨#[71, 69, 84, 32, 47, 97, 32, 72, 84, 84, 80, 47, 49, 46, 49, 13, 10, 13, 10]⟩] w fun e w' => e = .returned (.int .i64 1) ∧ w = w' := by
  have hT := toList_mk
  have hX : (ByteArray.mk #[71, 69, 84, 32, 47, 97, 32, 72, 84, 84, 80, 47, 49, 46, 49, 13, 10, 13, 10]).extract 0 4 = ⟨#[71, 69, 84, 32]⟩ := by rfl
  go_enter Tryz.func56, Tryz.ntmps56
  go_wp2
  go_ret
  exact ⟨rfl, rfl⟩
end Go.Proofs.Sess
namespace Go.Proofs.Sess
open Go Go.RowKit

set_option maxRecDepth 100000 in
set_option maxHeartbeats 8000000 in
theorem recognize_abcd (w : World) (b mb : Nat) (ob : Option Nat) (cs : Array Value) (f : Int → Int → Int) (l : List Buf) (a1 : Int)
    (h : SessAt w b mb ob cs f l) (h0 : cs[0]? = some (.int .i64 6)) (h1 : cs[1]? = some (.int .i64 a1)) (h2 : cs[2]? = some (.bool false)) (h20 : cs[20]? = some (.string ⟨#[97, 98, 99, 100]⟩)) (h25 : cs[25]? = some (.string ⟨#[]⟩)) (h23 : cs[23]? = some (.bool false)) (h28 : cs[28]? = some (.bool false)) (h29 : cs[29]? = some .nilIface) :
    Calls Tryz.prog 34 #[.pointer (some ⟨b, 0, none⟩), .int .i64 0, .int .i64 1, .bool false] w fun e w' => e = .returned (.tuple #[]) ∧ SessAt w' b mb ob ((((cs.setIfInBounds 1 (.int .i64 0)).setIfInBounds 2 (.bool true)).setIfInBounds 20 (.string ⟨#[]⟩)).setIfInBounds 25 (.string ⟨#[]⟩)) f l ∧ Keeps [b] w w' := by
  have c0 := h.cell (by decide) h0
  have c1 := h.cell (by decide) h1
  have c2 := h.cell (by decide) h2
  have c20 := h.cell (by decide) h20
  have c25 := h.cell (by decide) h25
  have c23 := h.cell (by decide) h23
  have c28 := h.cell (by decide) h28
  have c29 := h.cell (by decide) h29
  have f1 := h.free 1
  have f2 := h.free 2
  have f20 := h.free 20
  have f25 := h.free 25
  have hbl := h.lt
  have H := Lib.hid h
  clear h h0 h1 h2 h20 h25 h23 h28 h29
  go_enter Tryz.func34, Tryz.ntmps34
  go_wp2_with (first
    | (go_at_call 56; refine (appOf_abcd _).mono ?_; rintro e w1 ⟨rfl, rfl⟩)
    | (go_at_call 23; refine (begin_raw _ b 6 (by go_simp) (by go_simp)).mono ?_; rintro e w1 ⟨rfl, rfl⟩))
  refine wp_loop_rounds 3 ?_
  rw [rounds_succ]
  go_wp2_with fail
  rw [rounds_succ]
  go_wp2_with fail
  rw [rounds_succ]
  go_wp2_with fail
  refine wp_loop_rounds 3 ?_
  rw [rounds_succ]
  go_wp2_with fail
  rw [rounds_succ]
  go_wp2_with fail
  rw [rounds_succ]
  go_wp2_with fail
  go_end0
  refine ⟨rfl, SessAt.keep ((((H.out.store (o := 1) (by decide) (by decide) _).store (o := 2) (by decide) (by decide) _).store (o := 20) (by decide) (by decide) _).store (o := 25) (by decide) (by decide) _) (((Keeps.refl [] _).alloc _).alloc _) (by simp), ?_⟩
  exact (((((((Keeps.refl _ _).setCell (by simp) _).setCell (by simp) _).setCell (by simp) _).setCell (by simp) _).alloc _).alloc _)
end Go.Proofs.Sess
namespace Go.Proofs.Sess
open Go Go.RowKit

/-- What Feed has done ahead of recognize. -/
structure Ahead (w : World) (b mb wb : Nat) (cs : Array Value) (f : Int → Int → Int) (s : ByteArray) (W : World) : Prop where
  sess : ∃ ob, SessAt W b mb ob ((cs.setIfInBounds 31 (.int .i64 0)).setIfInBounds 20 (.string s)) f [] ∧ (∀ k, ob = some k → k ∈ [b, mb] ∨ w.heap.size ≤ k)
  win : ∃ g c, w.heap.size ≤ g ∧ W.heap[wb]? = some (WinObj 1 1 0 0 (.slice (some ⟨g, 0, none⟩) s.size c)) ∧ Lib.Bytes W g 0 s
  keeps : Keeps [b, mb, wb] w W

set_option maxRecDepth 100000 in
set_option maxHeartbeats 8000000 in
theorem feed_unsure (w : World) (b mb wb : Nat) (cs : Array Value) (f : Int → Int → Int) (s : ByteArray) (R : World → Value → World → Prop) (N : Int)
    (h : SessAt w b mb none cs f []) (h0 : cs[0]? = some (.int .i64 6)) (h1 : cs[1]? = some (.int .i64 0)) (h2 : cs[2]? = some (.bool false)) (h9 : cs[9]? = some (.bool false)) (h19 : cs[19]? = some (.pointer (some ⟨wb, 0, none⟩))) (h20 : cs[20]? = some (.string ⟨#[]⟩)) (h21 : cs[21]? = some (.bool false)) (h22 : cs[22]? = some (.bool false)) (h27 : cs[27]? = some (.bool false)) (h31 : cs[31]? = some (.int .i64 0))
    (hf : CntLe f N) (hN : N < 1000000) (hw : w.heap[wb]? = some (WinObj 1 1 0 0 (.slice none 0 0))) (hwb : wb ≠ b) (hwm : wb ≠ mb) (hs : s.size ≠ 0) (hs2 : s.size < 1024)
    (hrec : ∀ W, Ahead w b mb wb cs f s W → Calls Tryz.prog 34 #[.pointer (some ⟨b, 0, none⟩), .int .i64 0, .int .i64 1, .bool false] W (fun e W' => e = .returned (.tuple #[]) ∧ Calls Tryz.prog 35 #[.pointer (some ⟨b, 0, none⟩)] W' (fun e w5 => ∃ v, e = .returned v ∧ R W v w5))) :
    Calls Tryz.prog 17 #[.pointer (some ⟨b, 0, none⟩), .int .i64 0, .int .i64 1, .string s] w fun e w' => ∃ W v, e = .returned v ∧ Ahead w b mb wb cs f s W ∧ R W v w' := by
  have hbl := h.lt
  have c31 := h.cell (by decide) h31
  have f31 := h.free 31
  have hse : s.toList.isEmpty = false := toList_some hs
  have hub : usableB 1 false false = true := rfl
  have c0 := h.cell (by decide) h0
  have c19 := h.cell (by decide) h19
  have hU := Lib.hid (usable_sess w b mb none cs f [] 1 false false h h22 h27)
  have HC := Lib.hid (And.intro h0 (And.intro h1 (And.intro h2 (And.intro h9 (And.intro h19 (And.intro h20 h21))))))
  have H := Lib.hid h
  have HW := Lib.hid hw
  have HR := Lib.hid hrec
  have HF := Lib.hid hf
  clear h h0 h1 h2 h9 h19 h20 h21 h22 h27 h31 hw hrec hf
  go_enter Tryz.func17, Tryz.ntmps17
  go_upto_region 12 with (first
    | (go_at_call 31; refine hU.out.mono ?_; rintro e w1 ⟨rfl, rfl⟩)
    | (go_at_call 38; refine (winFeed_first _ wb 1 1 0 0 s ((heap_setCell_far hwb _).trans HW.out) hs hs2).mono ?_; rintro e w2 ⟨rfl, hq⟩; have H2 := Lib.hid hq; clear hq)
    | (go_at_call 32
       have hs2 : SessAt w2 b mb none (cs.setIfInBounds 31 (.int .i64 0)) f [] := by
         obtain ⟨g, c, _, _, _, _, hk⟩ := H2.out
         exact (H.out.store (o := 31) (by decide) (by decide) _).keep hk (by simp [foot]; exact ⟨Ne.symm hwb, Ne.symm hwm⟩)
       have HS2 := Lib.hid hs2
       clear hs2
       refine (stream_sess w2 b mb none _ f [] 1 0 false (.slice none 0 0) [] N HS2.out (by rw [Array.getElem?_setIfInBounds_ne (by decide)]; exact HC.out.2.1) (by rw [Array.getElem?_setIfInBounds_ne (by decide)]; exact HC.out.2.2.2.1) (World.ownsRow_nil _ _ _ _) (by simp [Value.ownBlock]) HF.out (by simpa using hN) (by simp)).mono ?_
       rintro e w3 ⟨rfl, hq⟩
       have H3 := Lib.hid hq
       clear hq))
  have hq2 := H2.out
  have hq3 : Told w2 b mb none (cs.setIfInBounds 31 (.int .i64 0)) f [] [] w3 := by simpa [evOf] using H3.out
  clear H2 H3
  obtain ⟨g, cp, hg, hwin, hby, hgc, hk2⟩ := hq2
  obtain ⟨ob, hs3, hm3⟩ := hq3
  simp only [evF, evB, List.append_nil] at hs3
  have d2 := hs3.cell (o := 2) (by decide) (v := .bool false) (by rw [Array.getElem?_setIfInBounds_ne (by decide)]; exact HC.out.2.2.1)
  have d21 := hs3.cell (o := 21) (by decide) (v := .bool false) (by rw [Array.getElem?_setIfInBounds_ne (by decide)]; exact HC.out.2.2.2.2.2.2)
  have d20 := hs3.cell (o := 20) (by decide) (v := .string ⟨#[]⟩) (by rw [Array.getElem?_setIfInBounds_ne (by decide)]; exact HC.out.2.2.2.2.2.1)
  have e20 := hs3.free 20
  have hap : (ByteArray.mk #[]) ++ s = s := by apply ByteArray.ext; simp
  have hAh : Ahead w b mb wb cs f s (w3.setCell ⟨b, 20, none⟩ (.string s)) := by
    have hml := H.out.ltm
    have hsz : (w.setCell ⟨b, 31, none⟩ (.int .i64 0)).heap.size = w.heap.size := by simp [World.setCell]
    rw [hsz] at hg
    have hsz2 := hk2.size
    rw [hsz] at hsz2
    have hgb : g ≠ b := by omega
    have hgm : g ≠ mb := by omega
    refine ⟨⟨ob, hs3.store (o := 20) (by decide) (by decide) _, fun k hk => ?_⟩, ⟨g, cp, hg, ?_, fun j hj => ?_⟩, ?_⟩
    · have := hm3.grow k (by simp [foot, hk])
      rcases this with h | h
      · exact .inl (by simpa [foot] using h)
      · exact .inr (by omega)
    · rw [heap_setCell_far hwb]; exact hm3.keeps.heap hwin (by simp [foot]; exact ⟨hwb, hwm⟩)
    · exact (World.cell?_of_block (heap_setCell_far hgb _)).trans (hm3.keeps.cell (hby j hj) (by simp [foot]; exact ⟨hgb, hgm⟩))
    · refine Keeps.setCell ?_ (by simp) _
      refine (((Keeps.refl [b, mb, wb] w).setCell (p := ⟨b, 31, none⟩) (by simp) _).trans hk2 (by simp)).trans hm3.keeps ?_
      intro x hx _
      simp [foot] at hx
      rcases hx with hx | hx <;> simp [hx]
  have HA := Lib.hid hAh
  clear hAh hs3 hm3 hwin hby hk2 hg
  go_wp2_with (first
    | (go_at_call 34; refine (HR.out _ HA.out).mono ?_; rintro e w4 ⟨rfl, hq⟩; have H4 := Lib.hid hq; clear hq)
    | (go_at_call 35; refine H4.out.mono ?_; rintro e w5 ⟨v, rfl, hq⟩; have H5 := Lib.hid hq; clear hq))
  go_ret
  exact ⟨_, v, rfl, HA.out, H5.out⟩
end Go.Proofs.Sess
namespace Go.Proofs.Sess
open Go Go.RowKit

/-- What Finish leaves of a raw session whose window holds s. -/
def Finished (w : World) (b mb wb : Nat) (ob : Option Nat) (_cs : Array Value) (f : Int → Int → Int) (s : ByteArray) (e : Ending) (w' : World) : Prop :=
  ∃ v cs', e = .returned v ∧ SessAt w' b mb none cs' (evF f [⟨1, 1, s⟩]) [] ∧ cs'[1]? = some (.int .i64 0) ∧ w'.ownsRow 0 39 4 v 1 (bufsV (evB f [⟨1, 1, s⟩])) ∧ Keeps ([wb] ++ foot b mb ob) w w'

set_option maxRecDepth 100000 in
set_option maxHeartbeats 8000000 in
theorem finish_raw (w : World) (b mb wb g o c : Nat) (ob : Option Nat) (cs : Array Value) (f : Int → Int → Int) (s : ByteArray) (N : Int) (lst : Int)
    (h : SessAt w b mb ob cs f []) (h0 : cs[0]? = some (.int .i64 6)) (h1 : cs[1]? = some (.int .i64 0)) (h2 : cs[2]? = some (.bool true)) (h9 : cs[9]? = some (.bool false)) (h19 : cs[19]? = some (.pointer (some ⟨wb, 0, none⟩))) (h21 : cs[21]? = some (.bool false)) (h22 : cs[22]? = some (.bool false)) (h27 : cs[27]? = some (.bool false)) (h29 : cs[29]? = some .nilIface) (h31 : cs[31]? = some (.int .i64 lst))
    (hf : CntLe f N) (hN : N < 999999) (hw : w.heap[wb]? = some (WinObj 1 1 0 0 (.slice (some ⟨g, o, none⟩) s.size c))) (hby : Lib.Bytes w g o s) (hg : g < w.heap.size) (hgb : g ≠ b) (hfo : wb ∉ foot b mb ob) (hs : s.size ≠ 0) :
    Calls Tryz.prog 16 #[.pointer (some ⟨b, 0, none⟩), .int .i64 0, .int .i64 1] w (Finished w b mb wb ob cs f s) := by
  have hbl := h.lt
  have hwb : wb ≠ b := fun e => hfo (by simp [foot, e])
  have c22 := h.cell (by decide) h22
  have f22 := h.free 22
  have c31 := h.cell (by decide) h31
  have f31 := h.free 31
  have c0 := h.cell (by decide) h0
  have c19 := h.cell (by decide) h19
  have hub : usableB 1 false false = true := rfl
  have hU := Lib.hid (usable_sess w b mb ob cs f [] 1 false false h h22 h27)
  have HC := Lib.hid (And.intro h1 (And.intro h2 (And.intro h9 (And.intro h21 h29))))
  have H := Lib.hid h
  have HW := Lib.hid hw
  have HB := Lib.hid hby
  have HF := Lib.hid hf
  have HFO := Lib.hid hfo
  clear h h0 h1 h2 h9 h19 h21 h22 h27 h29 h31 hw hf hby hfo
  go_enter Tryz.func16, Tryz.ntmps16
  go_upto_region 10 with (first
    | (go_at_call 31; refine hU.out.mono ?_; rintro e w1 ⟨rfl, rfl⟩)
    | (go_at_call 33
       have hw2 : ((w.setCell ⟨b, 22, none⟩ (.bool true)).setCell ⟨b, 31, none⟩ (.int .i64 0)).heap[wb]? = some (WinObj 1 1 0 0 (.slice (some ⟨g, o, none⟩) s.size c)) := by rw [heap_setCell_far hwb, heap_setCell_far hwb]; exact HW.out
       have hb2 : Lib.Bytes ((w.setCell ⟨b, 22, none⟩ (.bool true)).setCell ⟨b, 31, none⟩ (.int .i64 0)) g o s := fun j hj => ((World.cell?_of_block (heap_setCell_far hgb _)).trans (World.cell?_of_block (heap_setCell_far hgb _))).trans (HB.out j hj)
       refine (winClose_some _ wb 1 1 0 g o c s hw2 hb2 (by simpa [World.setCell] using hg) (by omega) hs).mono ?_
       rintro e w2 ⟨g1, c1, rfl, hq⟩
       have H2 := Lib.hid hq
       clear hq hw2 hb2)
    | (go_at_call 32
       have hs2 : SessAt w2 b mb ob ((cs.setIfInBounds 22 (.bool true)).setIfInBounds 31 (.int .i64 0)) f [] := by
         have hk := H2.out.2.2.2
         exact ((H.out.store (o := 22) (by decide) (by decide) _).store (o := 31) (by decide) (by decide) _).keep hk (fun k hk => by intro e; simp at e; rw [e] at hk; exact HFO.out hk)
       have hg1 : g1 ∉ foot b mb ob := by
         have hgg := H2.out.2.1
         have := H.out.ltm
         intro hm
         have hsz : ((w.setCell ⟨b, 22, none⟩ (.bool true)).setCell ⟨b, 31, none⟩ (.int .i64 0)).heap.size = w.heap.size := by simp [World.setCell]
         rw [hsz] at hgg
         rcases ob with _ | k0
         · simp [foot] at hm
           omega
         · have := H.out.lto rfl
           simp [foot] at hm
           omega
       have HS2 := Lib.hid hs2
       have HG1 := Lib.hid hg1
       clear hs2 hg1
       refine (stream_sess w2 b mb ob _ f [] 1 0 false (.slice (some ⟨g1, 0, none⟩) 1 c1) [⟨1, 1, 0, s⟩] N HS2.out (by rw [Array.getElem?_setIfInBounds_ne (by decide), Array.getElem?_setIfInBounds_ne (by decide)]; exact HC.out.1) (by rw [Array.getElem?_setIfInBounds_ne (by decide), Array.getElem?_setIfInBounds_ne (by decide)]; exact HC.out.2.2.1) H2.out.1 (by simp [Value.ownBlock]; exact HG1.out) HF.out (by simp; omega) (by simp)).mono ?_
       rintro e w3 ⟨rfl, hq⟩
       have H3 := Lib.hid hq
       clear hq))
  have hka : Keeps ([wb] ++ foot b mb ob) w w2 := (((Keeps.refl _ _).setCell (p := ⟨b, 22, none⟩) (by simp [foot]) _).setCell (p := ⟨b, 31, none⟩) (by simp [foot]) _).trans H2.out.2.2.2 (by intro x hx _; simp at hx; simp [hx])
  have HKA := Lib.hid hka
  clear hka
  have hq3 : Told w2 b mb ob ((cs.setIfInBounds 22 (.bool true)).setIfInBounds 31 (.int .i64 0)) f [] [⟨1, 1, s⟩] w3 := by simpa [evOf] using H3.out
  clear H3 H2
  obtain ⟨ob3, hs3, hm3⟩ := hq3
  rw [List.nil_append] at hs3
  have far : ∀ (o : Nat) (v : Value), o ≠ 22 → o ≠ 31 → cs[o]? = some v → ((cs.setIfInBounds 22 (.bool true)).setIfInBounds 31 (.int .i64 0))[o]? = some v := fun o v h1 h2 hv => by
    rw [Array.getElem?_setIfInBounds_ne (Ne.symm h2), Array.getElem?_setIfInBounds_ne (Ne.symm h1)]; exact hv
  have hkb : Keeps ([wb] ++ foot b mb ob) w w3 := HKA.out.trans hm3.keeps (fun x hx _ => List.mem_append.2 (.inr hx))
  have hgr3 := hm3.grow
  have hsz3 := HKA.out.size
  have HKB := Lib.hid (And.intro hkb (And.intro hgr3 hsz3))
  clear hkb hgr3 hsz3 HKA
  have d2 := hs3.cell (o := 2) (by decide) (far 2 _ (by decide) (by decide) HC.out.2.1)
  have d21 := hs3.cell (o := 21) (by decide) (far 21 _ (by decide) (by decide) HC.out.2.2.2.1)
  have e21 := hs3.free 21
  have d29 := hs3.cell (o := 29) (by decide) (far 29 _ (by decide) (by decide) HC.out.2.2.2.2)
  have hs4 := hs3.store (o := 21) (by decide) (by decide) (.bool true)
  have H4 := Lib.hid hs4
  have h1' : ((((cs.setIfInBounds 22 (.bool true)).setIfInBounds 31 (.int .i64 0)).setIfInBounds 21 (.bool true)))[1]? = some (.int .i64 0) := by
    rw [Array.getElem?_setIfInBounds_ne (by decide)]; exact far 1 _ (by decide) (by decide) HC.out.1
  have HH := Lib.hid h1'
  clear hs4 hs3 hm3 far h1'
  go_wp2_with (go_at_call 35; refine (take_sess _ b mb ob3 _ _ _ H4.out).mono ?_; rintro e w5 ⟨v, rfl, q1, q2, q3, q4⟩; have H5 := Lib.hid (And.intro q1 (And.intro q2 q4)); clear q1 q2 q3 q4)
  go_ret
  refine ⟨v, _, rfl, H5.out.1, HH.out, H5.out.2.1, ?_⟩
  exact (HKB.out.1.setCell (p := ⟨b, 21, none⟩) (by simp [foot]) _).trans H5.out.2.2 (by intro x hx _; simp at hx; simp [foot, hx])
end Go.Proofs.Sess
namespace Go.Proofs.Sess
open Go Go.RowKit

/-- A splitter in block sb: ob: the block of its bytes; n bytes have come, the last a carriage return or not; xs: those that are kept. -/
structure SplitAt (w : World) (sb : Nat) (ob : Option Nat) (n : Nat) (ends : Bool) (xs : ByteArray) : Prop where
  own : ∃ v, w.heap[sb]? = some (SplitObj v n ends) ∧ v.ownBlock = ob ∧ w.ownsRow 0 5 1 v xs.size (Lib.strCells xs)
  ne : ob ≠ some sb

def footS (sb : Nat) (ob : Option Nat) : List Nat := [sb] ++ ob.toList

theorem SplitAt.keep {w w' : World} {sb : Nat} {ob : Option Nat} {n : Nat} {ends : Bool} {xs : ByteArray} (h : SplitAt w sb ob n ends xs) {S : List Nat} (hk : Keeps S w w') (hS : ∀ k ∈ footS sb ob, k ∉ S) : SplitAt w' sb ob n ends xs := by
  obtain ⟨v, h1, h2, h3⟩ := h.own
  exact ⟨⟨v, hk.heap h1 (hS sb (by simp [footS])), h2, hk.own h3 (fun k hk' => hS k (by rw [← h2, hk']; simp [footS]))⟩, h.ne⟩

/-- The splitter's bytes behind s: at most 513 are kept. -/
def keptS (xs s : ByteArray) : ByteArray := if xs.size < 513 then xs ++ s.extract 0 (min (513 - xs.size) s.size) else xs

/-- The splitter behind append. -/
def SplitApp (w : World) (sb : Nat) (ob : Option Nat) (n : Nat) (xs s : ByteArray) (e : Ending) (w' : World) : Prop :=
  e = .returned (.tuple #[]) ∧ ∃ ob', SplitAt w' sb ob' (n + s.size) (byt s (s.size - 1) == 13) (keptS xs s) ∧ Mod (footS sb ob) (footS sb ob') w w'

theorem strCells_append (a b : ByteArray) : Lib.strCells (a ++ b) = Lib.strCells a ++ Lib.strCells b := by
  simp [Lib.strCells]

set_option maxHeartbeats 400000 in
theorem linesAppend_none (w : World) (sb : Nat) : Calls Tryz.prog 362 #[.pointer (some ⟨sb, 0, none⟩), .string ⟨#[]⟩] w fun e w' => e = .returned (.tuple #[]) ∧ w = w' := by
  have hT := toList_mk
  go_enter Tryz.func362, Tryz.ntmps362
  go_wp2_with fail
  refine bodyPost_ret (results_none rfl _ _ _) rfl ?_
  exact ⟨rfl, rfl⟩

set_option maxRecDepth 100000 in
set_option maxHeartbeats 8000000 in
/-- A piece comes, and not too many bytes are kept. -/
theorem linesAppend_room (w : World) (sb : Nat) (ob : Option Nat) (n : Nat) (ends : Bool) (xs s : ByteArray) (h : SplitAt w sb ob n ends xs) (hs : s.size ≠ 0) (hx : xs.size < 513) (hn : n + s.size < 1000000) :
    Calls Tryz.prog 362 #[.pointer (some ⟨sb, 0, none⟩), .string s] w (SplitApp w sb ob n xs s) := by
  obtain ⟨i0, hi0, hz0, hz1, hz2⟩ := info_parts info5
  obtain ⟨v, h1, h2, h3⟩ := h.own
  have hne := h.ne
  have hl := lt_of_heap h1
  obtain ⟨va, vc, hv⟩ : ∃ a c, v = .slice a xs.size c := by
    rcases h3.2 with ⟨hvn, hn0⟩ | ⟨g, cap, cur, hvs, _⟩
    · exact ⟨none, 0, by rw [hvn, hn0]⟩
    · exact ⟨_, _, hvs⟩
  have c0 : w.cell? ⟨sb, 0, none⟩ = some (.int .i64 512) := cell_of_heap h1 rfl
  have c1 : w.cell? ⟨sb, 1, none⟩ = some v := cell_of_heap h1 rfl
  have c2 : w.cell? ⟨sb, 2, none⟩ = some (.int .i64 (n : Int)) := cell_of_heap h1 rfl
  have c3 : w.cell? ⟨sb, 3, none⟩ = some (.bool ends) := cell_of_heap h1 rfl
  have f1 : w.frozen? ⟨sb, 1, none⟩ = false := free_of_heap h1
  have f2 : w.frozen? ⟨sb, 2, none⟩ = false := free_of_heap h1
  have f3 : w.frozen? ⟨sb, 3, none⟩ = false := free_of_heap h1
  have hse : s.toList.isEmpty = false := toList_some hs
  have hi1 : s.size - 1 < s.size := by omega
  have hbt := byt_get s (s.size - 1) hi1
  have hb3 : byt s (s.size - 1) < 256 := byt_lt s _
  have H1 := Lib.hid (And.intro h1 (And.intro h2 h3))
  clear h h1 h2 h3
  subst hv
  have hp0 : (0 : Int) ≤ (s.size : Int) - 1 := by omega
  have hp1 : (s.size : Int) - 1 < (s.size : Int) := by omega
  go_enter Tryz.func362, Tryz.ntmps362
  go_upto_region 3 with fail
  obtain ⟨w1, hw1⟩ : ∃ w1, ((w.setCell ⟨sb, 2, none⟩ (.int .i64 ((n : Int) + (s.size : Int)))).setCell ⟨sb, 3, none⟩ (.bool (((s[s.size - 1]'hi1).toNat : Int) == 13))) = w1 := ⟨_, rfl⟩
  rw [hw1]
  have e1 : w1.heap[sb]? = some (SplitObj (.slice va xs.size vc) (n + s.size) (byt s (s.size - 1) == 13)) := by
    rw [← hw1, heap_setCell_self (heap_setCell_self H1.out.1 _), hbt]
    have hbb : ((((s[s.size - 1]'hi1).toNat : Int) == 13) : Bool) = ((s[s.size - 1]'hi1).toNat == 13) := by
      rw [Bool.eq_iff_iff]; simp; omega
    rw [hbb]
    rfl
  have k1 : Keeps [sb] w w1 := by rw [← hw1]; exact ((Keeps.refl _ _).setCell (by simp) _).setCell (by simp) _
  have o1 : w1.ownsRow 0 5 1 (.slice va xs.size vc) xs.size (Lib.strCells xs) := k1.own H1.out.2.2 (fun k hk => by rw [H1.out.2.1] at hk; rw [hk] at hne; simpa using hne)
  have hob := H1.out.2.1
  have E := Lib.hid (And.intro e1 (And.intro k1 (And.intro o1 hob)))
  have hS : (fun wx : World => wx.cell? ⟨sb, 0, none⟩ = some (.int .i64 512) ∧ wx.cell? ⟨sb, 1, none⟩ = some (.slice va xs.size vc)) w1.drew := ⟨cell_of_heap (w := w1) e1 rfl, cell_of_heap (w := w1) e1 rfl⟩
  have hSS := Lib.hid hS
  have g1 : w1.frozen? ⟨sb, 1, none⟩ = false := free_of_heap e1
  clear e1 k1 o1 hob hw1 c0 c1 c2 c3 f1 f2 f3 H1
  have hw3 : IntKind.i64.wrap (513 : Int) = 513 := by decide
  have hw4 : IntKind.i64.wrap ((513 : Int) - (xs.size : Int)) = 513 - (xs.size : Int) := IntWalk.i64_in _ (by omega)
  refine wp_region_seq (fun wx : World => wx.cell? ⟨sb, 0, none⟩ = some (.int .i64 512) ∧ wx.cell? ⟨sb, 1, none⟩ = some (.slice va xs.size vc))
    [(0, 0), (1, 0), (2, 0), (3, 1), (4, 0), (5, 0), (6, 0), (7, 0), (8, 1), (9, 0), (10, 0), (11, 0)]
    [] (by kernel_rfl) (by kernel_rfl) (fun d _ _ _ _ h => by cases d <;> exact h) ?_
  simp only [picks, List.getD_cons_succ, List.getD_cons_zero]
  (refine seq_pure (v := ?_) (by rfl) ?_ ?_; rotate_left; focus (intro wq; first | (go_simp; done) | (go_simp; with_reducible rfl))); (try simp only [Act.put, List.setIfInBounds_toArray, List.set_cons_zero, List.set_cons_succ])
  (refine seq_pure (v := ?_) (by rfl) ?_ ?_; rotate_left; focus (intro wq; first | (go_simp; done) | (go_simp; with_reducible rfl))); (try simp only [Act.put, List.setIfInBounds_toArray, List.set_cons_zero, List.set_cons_succ])
  (refine seq_pure (v := ?_) (by rfl) ?_ ?_; rotate_left; focus (intro wq; first | (go_simp; done) | (go_simp; with_reducible rfl))); (try simp only [Act.put, List.setIfInBounds_toArray, List.set_cons_zero, List.set_cons_succ])
  (refine seq_read (v := ?_) hS (by rfl) ?_ ?_; rotate_left; focus (intro wq hSq; obtain ⟨hq1, hq2⟩ := hSq; first | (go_simp; done) | (go_simp; with_reducible rfl))); (try simp only [Act.put, List.setIfInBounds_toArray, List.set_cons_zero, List.set_cons_succ])
  (refine seq_pure (v := ?_) (by rfl) ?_ ?_; rotate_left; focus (intro wq; first | (go_simp; done) | (go_simp; with_reducible rfl))); (try simp only [Act.put, List.setIfInBounds_toArray, List.set_cons_zero, List.set_cons_succ])
  (refine seq_pure (v := ?_) (by rfl) ?_ ?_; rotate_left; focus (intro wq; first | (go_simp; done) | (go_simp; with_reducible rfl))); (try simp only [Act.put, List.setIfInBounds_toArray, List.set_cons_zero, List.set_cons_succ])
  (refine seq_pure (v := ?_) (by rfl) ?_ ?_; rotate_left; focus (intro wq; first | (go_simp; done) | (go_simp; with_reducible rfl))); (try simp only [Act.put, List.setIfInBounds_toArray, List.set_cons_zero, List.set_cons_succ])
  (refine seq_pure (v := ?_) (by rfl) ?_ ?_; rotate_left; focus (intro wq; first | (go_simp; done) | (go_simp; with_reducible rfl))); (try simp only [Act.put, List.setIfInBounds_toArray, List.set_cons_zero, List.set_cons_succ])
  (refine seq_read (v := ?_) hS (by rfl) ?_ ?_; rotate_left; focus (intro wq hSq; obtain ⟨hq1, hq2⟩ := hSq; first | (go_simp; done) | (go_simp; with_reducible rfl))); (try simp only [Act.put, List.setIfInBounds_toArray, List.set_cons_zero, List.set_cons_succ])
  (refine seq_pure (v := ?_) (by rfl) ?_ ?_; rotate_left; focus (intro wq; first | (go_simp; done) | (go_simp; with_reducible rfl))); (try simp only [Act.put, List.setIfInBounds_toArray, List.set_cons_zero, List.set_cons_succ])
  (refine seq_pure (v := ?_) (by rfl) ?_ ?_; rotate_left; focus (intro wq; first | (go_simp; done) | (go_simp; with_reducible rfl))); (try simp only [Act.put, List.setIfInBounds_toArray, List.set_cons_zero, List.set_cons_succ])
  (refine seq_pure (v := ?_) (by rfl) ?_ ?_; rotate_left; focus (intro wq; first | (go_simp; done) | (go_simp; with_reducible rfl))); (try simp only [Act.put, List.setIfInBounds_toArray, List.set_cons_zero, List.set_cons_succ])
  refine seq_nil ?_
  clear hS
  have hpos : (0 : Int) < 513 - (xs.size : Int) := by omega
  obtain ⟨d, hd⟩ : ∃ d, d = min (513 - xs.size) s.size := ⟨_, rfl⟩
  have hd1 : d ≤ s.size := by omega
  have hd2 : d ≠ 0 := by omega
  have hma : (0 : Int) ≤ min (513 - (xs.size : Int)) (s.size : Int) := by omega
  have hmb : min (513 - (xs.size : Int)) (s.size : Int) ≤ (s.size : Int) := by omega
  have hmc : (min (513 - (xs.size : Int)) (s.size : Int)).toNat = d := by omega
  have hxz : (s.extract 0 d).size = d := by simp; omega
  go_upto_region 5 with fail
  have hS : (fun wx : World => wx.cell? ⟨sb, 0, none⟩ = some (.int .i64 512) ∧ wx.cell? ⟨sb, 1, none⟩ = some (.slice va xs.size vc)) w1.drew.drew := hSS.out
  refine wp_region_seq (fun wx : World => wx.cell? ⟨sb, 0, none⟩ = some (.int .i64 512) ∧ wx.cell? ⟨sb, 1, none⟩ = some (.slice va xs.size vc))
    [(0, 0), (1, 0), (2, 0), (3, 0), (4, 1), (5, 0), (6, 0), (7, 0), (8, 0), (9, 0), (10, 0), (11, 3), (12, 0), (13, 0), (14, 3)]
    [[11, 4], [14, 4]] (by kernel_rfl) (by kernel_rfl) (fun d _ _ _ _ h => by cases d <;> exact h) ?_
  simp only [picks, List.getD_cons_succ, List.getD_cons_zero]
  (refine seq_pure (v := ?_) (by rfl) ?_ ?_; rotate_left; focus (intro wq; first | (go_simp; done) | (go_simp; with_reducible rfl))); (try simp only [Act.put, List.setIfInBounds_toArray, List.set_cons_zero, List.set_cons_succ])
  (refine seq_pure (v := ?_) (by rfl) ?_ ?_; rotate_left; focus (intro wq; first | (go_simp; done) | (go_simp; with_reducible rfl))); (try simp only [Act.put, List.setIfInBounds_toArray, List.set_cons_zero, List.set_cons_succ])
  (refine seq_pure (v := ?_) (by rfl) ?_ ?_; rotate_left; focus (intro wq; first | (go_simp; done) | (go_simp; with_reducible rfl))); (try simp only [Act.put, List.setIfInBounds_toArray, List.set_cons_zero, List.set_cons_succ])
  (refine seq_pure (v := ?_) (by rfl) ?_ ?_; rotate_left; focus (intro wq; first | (go_simp; done) | (go_simp; with_reducible rfl))); (try simp only [Act.put, List.setIfInBounds_toArray, List.set_cons_zero, List.set_cons_succ])
  (refine seq_read (v := ?_) hS (by rfl) ?_ ?_; rotate_left; focus (intro wq hSq; obtain ⟨hq1, hq2⟩ := hSq; first | (go_simp; done) | (go_simp; with_reducible rfl))); (try simp only [Act.put, List.setIfInBounds_toArray, List.set_cons_zero, List.set_cons_succ])
  (refine seq_pure (v := ?_) (by rfl) ?_ ?_; rotate_left; focus (intro wq; first | (go_simp; done) | (go_simp; with_reducible rfl))); (try simp only [Act.put, List.setIfInBounds_toArray, List.set_cons_zero, List.set_cons_succ])
  (refine seq_pure (v := ?_) (by rfl) ?_ ?_; rotate_left; focus (intro wq; first | (go_simp; done) | (go_simp; with_reducible rfl))); (try simp only [Act.put, List.setIfInBounds_toArray, List.set_cons_zero, List.set_cons_succ])
  (refine seq_pure (v := ?_) (by rfl) ?_ ?_; rotate_left; focus (intro wq; first | (go_simp; done) | (go_simp; with_reducible rfl))); (try simp only [Act.put, List.setIfInBounds_toArray, List.set_cons_zero, List.set_cons_succ])
  (refine seq_pure (v := ?_) (by rfl) ?_ ?_; rotate_left; focus (intro wq; first | (go_simp; done) | (go_simp; with_reducible rfl))); (try simp only [Act.put, List.setIfInBounds_toArray, List.set_cons_zero, List.set_cons_succ])
  (refine seq_pure (v := ?_) (by rfl) ?_ ?_; rotate_left; focus (intro wq; first | (go_simp; done) | (go_simp; with_reducible rfl))); (try simp only [Act.put, List.setIfInBounds_toArray, List.set_cons_zero, List.set_cons_succ])
  (refine seq_pure (v := ?_) (by rfl) ?_ ?_; rotate_left; focus (intro wq; first | (go_simp; done) | (go_simp; with_reducible rfl))); (try simp only [Act.put, List.setIfInBounds_toArray, List.set_cons_zero, List.set_cons_succ])
  refine seq_do (fun K hK => ?_)
  refine step_append_string (by rfl) _ _ 75 9 (by rfl) 5 i0 Tryz.underlying75 Tryz.underlying9 hi0 hz0 hz1 hz2 (.slice va xs.size vc) xs.size (Lib.strCells xs) E.out.2.2.1 (by rfl) (s.extract 0 d) (by first | rfl | exact congrArg (fun k => Value.string (s.extract 0 k)) hd.symm) (by omega) (by omega) ?_
  intro g cp w2 hown hgrow hat
  have hsb : sb < w1.heap.size := lt_of_heap E.out.1
  have hnv : some sb ≠ (Value.slice va xs.size vc).ownBlock := by rw [E.out.2.2.2]; exact Ne.symm hne
  have q2 : w2.heap[sb]? = some (SplitObj (.slice va xs.size vc) (n + s.size) (byt s (s.size - 1) == 13)) := (hgrow.block sb hsb hnv).trans E.out.1
  have q0 : w2.frozen? ⟨sb, 1, none⟩ = false := free_of_heap q2
  have q1 : w2.cell? ⟨sb, 1, none⟩ = some (.slice va xs.size vc) := cell_of_heap q2 rfl
  have hgs : g ≠ sb := by
    rcases hat with hat | hat
    · intro e; exact hnv (by rw [hat, e])
    · have : w1.drew.drew.heap.size = w1.heap.size := rfl
      omega
  have QQ := Lib.hid (And.intro q2 (And.intro hown (And.intro hgrow hat)))
  clear q2 hown hgrow hat
  refine hK.out _ _ ?_; clear hK; clear K
  (try simp only [Act.put, List.setIfInBounds_toArray, List.set_cons_zero, List.set_cons_succ])
  (refine seq_pure (v := ?_) (by rfl) ?_ ?_; rotate_left; focus (intro wq; first | (go_simp; done) | (go_simp; with_reducible rfl))); (try simp only [Act.put, List.setIfInBounds_toArray, List.set_cons_zero, List.set_cons_succ])
  (refine seq_pure (v := ?_) (by rfl) ?_ ?_; rotate_left; focus (intro wq; first | (go_simp; done) | (go_simp; with_reducible rfl))); (try simp only [Act.put, List.setIfInBounds_toArray, List.set_cons_zero, List.set_cons_succ])
  refine seq_do (fun K hK => ?_)
  go_simp
  refine hK.out _ _ ?_; clear hK; clear K
  (try simp only [Act.put, List.setIfInBounds_toArray, List.set_cons_zero, List.set_cons_succ])
  refine seq_nil ?_
  clear hS
  go_end0
  rw [show xs.size + min (513 - xs.size) s.size = xs.size + (s.extract 0 d).size by omega]
  have h0 : (w2.setCell ⟨sb, 1, none⟩ (.slice (some ⟨g, 0, none⟩) (xs.size + (s.extract 0 d).size) cp)).heap[sb]? = some (SplitObj (.slice (some ⟨g, 0, none⟩) (xs.size + (s.extract 0 d).size) cp) (n + s.size) (byt s (s.size - 1) == 13)) := by
    rw [heap_setCell_self QQ.out.1]; rfl
  have hk2 : Keeps [sb] w2 (w2.setCell ⟨sb, 1, none⟩ (.slice (some ⟨g, 0, none⟩) (xs.size + (s.extract 0 d).size) cp)) := (Keeps.refl _ _).setCell (by simp) _
  have hkp : keptS xs s = xs ++ s.extract 0 d := by unfold keptS; rw [if_pos hx, ← hd]
  have hkz : (xs ++ s.extract 0 d).size = xs.size + (s.extract 0 d).size := by simp
  have hlw : w.heap.size ≤ w1.heap.size := E.out.2.1.size
  refine ⟨rfl, some g, ⟨⟨_, h0, rfl, ?_⟩, by simpa using hgs⟩, ⟨?_, ?_⟩⟩
  · rw [hkp, hkz, strCells_append]
    exact hk2.own QQ.out.2.1 (fun k hk => by simp [Value.ownBlock] at hk; simp; omega)
  · refine ((E.out.2.1.mono (T := footS sb ob) (by simp [footS])).grown (w := w1) (w' := w2) (row := (Value.slice va xs.size vc).ownBlock) ⟨QQ.out.2.2.1.os, QQ.out.2.2.1.tape, QQ.out.2.2.1.output, QQ.out.2.2.1.size, QQ.out.2.2.1.block⟩ (fun k hk _ => by rw [E.out.2.2.2] at hk; simp [footS, hk])).trans hk2 (by simp [footS])
  · intro k hk
    simp [footS] at hk
    rcases hk with hk | hk
    · left; simp [footS, hk]
    · subst hk
      rcases QQ.out.2.2.2 with hh | hh
      · left; rw [E.out.2.2.2] at hh; simp [footS, hh]
      · right
        have : w1.drew.drew.heap.size = w1.heap.size := rfl
        omega
end Go.Proofs.Sess
namespace Go.Proofs.Sess
open Go Go.RowKit

set_option maxHeartbeats 800000 in
theorem linesLength (w : World) (sb : Nat) (ob : Option Nat) (n : Nat) (ends : Bool) (xs : ByteArray) (h : SplitAt w sb ob n ends xs) (hn : n < 1000000) :
    Calls Tryz.prog 363 #[.pointer (some ⟨sb, 0, none⟩)] w fun e w' => e = .returned (.int .i64 (if ends then (n : Int) - 1 else n)) ∧ w = w' := by
  obtain ⟨v, h1, h2, h3⟩ := h.own
  have c2 : w.cell? ⟨sb, 2, none⟩ = some (.int .i64 (n : Int)) := cell_of_heap h1 rfl
  have c3 : w.cell? ⟨sb, 3, none⟩ = some (.bool ends) := cell_of_heap h1 rfl
  clear h h1 h2 h3
  cases ends
  · go_enter Tryz.func363, Tryz.ntmps363
    go_wp2
    go_ret
    exact ⟨rfl, rfl⟩
  · go_enter Tryz.func363, Tryz.ntmps363
    go_wp2
    go_ret
    exact ⟨rfl, rfl⟩

set_option maxHeartbeats 800000 in
theorem linesFirst (w : World) (sb : Nat) (ob : Option Nat) (n m : Nat) (ends : Bool) (xs : ByteArray) (h : SplitAt w sb ob n ends xs) (hm : m ≤ 512) (hx : m ≤ xs.size) (hx0 : xs.size ≠ 0) :
    Calls Tryz.prog 375 #[.pointer (some ⟨sb, 0, none⟩), .int .i64 (m : Int), .int .i64 512] w fun e w' => e = .returned (.string (xs.extract 0 m)) ∧ w = w' := by
  obtain ⟨v, h1, h2, h3⟩ := h.own
  have c1 : w.cell? ⟨sb, 1, none⟩ = some v := cell_of_heap h1 rfl
  have h3' := h3
  rcases h3.2 with ⟨hvn, hn0⟩ | ⟨g, cap, cur, hvs, _, hg, hcap, hcm, hcs, htk⟩
  · exact absurd hn0 hx0
  · subst hvs
    have hb := bytes_of_own h3'
    have hcv := Lib.run_convert_window (P := Tryz.prog) w 75 5 9 Tryz.underlying75 Tryz.underlying5 Tryz.underlying9 g 0 xs hb 0 m m (by omega)
    simp only [Nat.add_zero, Nat.zero_add] at hcv
    have hm1 : (m : Int) ≤ 512 := by omega
    have hm2 : (m : Int) ≤ (xs.size : Int) := by omega
    have hmi1 : min (m : Int) 512 = m := by omega
    have hmi2 : min (m : Int) (xs.size : Int) = m := by omega
    have hcp : m ≤ cap := by omega
    have hcp2 : (m : Int) ≤ (cap : Int) := by omega
    clear h h1 h2 h3 h3' hg hcm hcs htk hb
    go_enter Tryz.func375, Tryz.ntmps375
    go_wp2
    go_ret
    exact ⟨rfl, rfl⟩
end Go.Proofs.Sess
namespace Go.Proofs.Sess
open Go Go.RowKit

set_option maxRecDepth 100000 in
set_option maxHeartbeats 1600000 in
theorem linesForget (u : FrameMode) (w : World) (sb : Nat) (ob : Option Nat) (n : Nat) (ends : Bool) (xs : ByteArray) (h : SplitAt w sb ob n ends xs) (hx0 : xs.size ≠ 0) :
    CallsD Tryz.prog 374 #[.pointer (some ⟨sb, 0, none⟩)] u w fun e u' w' => u' = u ∧ e = .returned (.tuple #[]) ∧ SplitAt w' sb ob 0 false ⟨#[]⟩ ∧ Keeps [sb] w w' := by
  obtain ⟨v, h1, h2, h3⟩ := h.own
  have hne := h.ne
  rcases h3.2 with ⟨hvn, hn0⟩ | ⟨g, cap, cur, hvs, _, hg, hcap, hcm, hcs, htk⟩
  · exact absurd hn0 hx0
  · subst hvs
    have c1 : w.cell? ⟨sb, 1, none⟩ = some (.slice (some ⟨g, 0, none⟩) xs.size cap) := cell_of_heap h1 rfl
    have c2 : w.cell? ⟨sb, 2, none⟩ = some (.int .i64 (n : Int)) := cell_of_heap h1 rfl
    have c3 : w.cell? ⟨sb, 3, none⟩ = some (.bool ends) := cell_of_heap h1 rfl
    have f1 : w.frozen? ⟨sb, 1, none⟩ = false := free_of_heap h1
    have f2 : w.frozen? ⟨sb, 2, none⟩ = false := free_of_heap h1
    have f3 : w.frozen? ⟨sb, 3, none⟩ = false := free_of_heap h1
    have hgs : g ≠ sb := fun e => hne (by rw [← h2, e]; rfl)
    have H := Lib.hid (And.intro h1 (And.intro h2 (And.intro hg (And.intro hcm hcs))))
    clear h h1 h2 h3 hg hcm hcs htk
    go_enter_d Tryz.func374, Tryz.ntmps374
    go_wp2
    go_end0
    have hk : Keeps [sb] w (((w.setCell ⟨sb, 1, none⟩ (.slice (some ⟨g, 0, none⟩) 0 cap)).setCell ⟨sb, 2, none⟩ (.int .i64 0)).setCell ⟨sb, 3, none⟩ (.bool false)) := (((Keeps.refl _ _).setCell (by simp) _).setCell (by simp) _).setCell (by simp) _
    refine ⟨rfl, ⟨⟨.slice (some ⟨g, 0, none⟩) 0 cap, ?_, H.out.2.1, rfl, .inr ⟨g, cap, cur, rfl, Nat.zero_le _, hk.heap H.out.2.2.1 (by simpa using hgs), Nat.zero_le _, H.out.2.2.2.1, H.out.2.2.2.2, by rfl⟩⟩, hne⟩, hk⟩
    rw [heap_setCell_self (heap_setCell_self (heap_setCell_self H.out.1 _) _) _]; rfl
end Go.Proofs.Sess
namespace Go.Proofs.Sess
open Go Go.RowKit

/-- A line is taken. -/
def LineTook (w : World) (sb : Nat) (ob : Option Nat) (xs : ByteArray) (m : Nat) (e : Ending) (w' : World) : Prop :=
  e = .returned (.agg #[.string (xs.extract 0 m), .bool false]) ∧ SplitAt w' sb ob 0 false ⟨#[]⟩ ∧ Keeps [sb] w w'

set_option maxRecDepth 100000 in
set_option maxHeartbeats 8000000 in
theorem linesLine (w : World) (sb : Nat) (ob : Option Nat) (n m : Nat) (ends : Bool) (xs : ByteArray) (h : SplitAt w sb ob n ends xs) (hm : m ≤ 512) (hx : m ≤ xs.size) (hx0 : xs.size ≠ 0) :
    Calls Tryz.prog 353 #[.pointer (some ⟨sb, 0, none⟩), .int .i64 (m : Int)] w (LineTook w sb ob xs m) := by
  have hA : ∀ W, Keeps [] w W → SplitAt W sb ob n ends xs := fun W hW => h.keep hW (by simp)
  have hAS : ∀ W, Keeps [] w W → (fun wx : World => wx.cell? ⟨sb, 0, none⟩ = some (.int .i64 512)) W := fun W hW => by
    obtain ⟨v, h1, _, _⟩ := (hA W hW).own
    exact cell_of_heap h1 rfl
  have HA := Lib.hid hA
  have HS := Lib.hid hAS
  have hm1 : ¬ ((512 : Int) < (m : Int)) := by omega
  have hm2 : (m : Int) ≤ 512 := by omega
  clear h hA hAS
  go_enter_defers Tryz.func353, Tryz.ntmps353
  go_wp2_with fail
  refine wp_calm ?_
  have hS := HS.out (w.alloc (.cells #[.string ⟨#[]⟩, .bool false] 310)).drew ((Keeps.refl _ _).alloc _).drew
  have hF := linesFirst (w.alloc (.cells #[.string ⟨#[]⟩, .bool false] 310)).drew sb ob n m ends xs (HA.out _ ((Keeps.refl _ _).alloc _).drew) hm hx hx0
  have HF := Lib.hid hF
  clear hF
  refine wp_region_seq (fun wx : World => wx.cell? ⟨sb, 0, none⟩ = some (.int .i64 512))
    [(0, 0), (1, 0), (2, 0), (3, 0), (4, 0), (5, 1), (7, 0), (8, 0), (9, 0), (10, 0), (11, 1), (12, 0), (6, 2), (13, 2), (14, 0), (15, 2), (16, 0), (17, 3)]
    [[17, 5], [17, 11]] (by kernel_rfl) (by kernel_rfl) (fun d _ _ _ _ h => by cases d <;> exact h) ?_
  simp only [picks, List.getD_cons_succ, List.getD_cons_zero]
  (refine seq_pure (v := ?_) (by rfl) ?_ ?_; rotate_left; focus (intro wq; first | (go_simp; done) | (go_simp; with_reducible rfl))); (try simp only [Act.put, List.setIfInBounds_toArray, List.set_cons_zero, List.set_cons_succ])
  (refine seq_pure (v := ?_) (by rfl) ?_ ?_; rotate_left; focus (intro wq; first | (go_simp; done) | (go_simp; with_reducible rfl))); (try simp only [Act.put, List.setIfInBounds_toArray, List.set_cons_zero, List.set_cons_succ])
  (refine seq_pure (v := ?_) (by rfl) ?_ ?_; rotate_left; focus (intro wq; first | (go_simp; done) | (go_simp; with_reducible rfl))); (try simp only [Act.put, List.setIfInBounds_toArray, List.set_cons_zero, List.set_cons_succ])
  (refine seq_pure (v := ?_) (by rfl) ?_ ?_; rotate_left; focus (intro wq; first | (go_simp; done) | (go_simp; with_reducible rfl))); (try simp only [Act.put, List.setIfInBounds_toArray, List.set_cons_zero, List.set_cons_succ])
  (refine seq_pure (v := ?_) (by rfl) ?_ ?_; rotate_left; focus (intro wq; first | (go_simp; done) | (go_simp; with_reducible rfl))); (try simp only [Act.put, List.setIfInBounds_toArray, List.set_cons_zero, List.set_cons_succ])
  (refine seq_read (v := ?_) hS (by rfl) ?_ ?_; rotate_left; focus (intro wq hSq; obtain hq1 := hSq; first | (go_simp; done) | (go_simp; with_reducible rfl))); (try simp only [Act.put, List.setIfInBounds_toArray, List.set_cons_zero, List.set_cons_succ])
  (refine seq_pure (v := ?_) (by rfl) ?_ ?_; rotate_left; focus (intro wq; first | (go_simp; done) | (go_simp; with_reducible rfl))); (try simp only [Act.put, List.setIfInBounds_toArray, List.set_cons_zero, List.set_cons_succ])
  (refine seq_pure (v := ?_) (by rfl) ?_ ?_; rotate_left; focus (intro wq; first | (go_simp; done) | (go_simp; with_reducible rfl))); (try simp only [Act.put, List.setIfInBounds_toArray, List.set_cons_zero, List.set_cons_succ])
  (refine seq_pure (v := ?_) (by rfl) ?_ ?_; rotate_left; focus (intro wq; first | (go_simp; done) | (go_simp; with_reducible rfl))); (try simp only [Act.put, List.setIfInBounds_toArray, List.set_cons_zero, List.set_cons_succ])
  (refine seq_pure (v := ?_) (by rfl) ?_ ?_; rotate_left; focus (intro wq; first | (go_simp; done) | (go_simp; with_reducible rfl))); (try simp only [Act.put, List.setIfInBounds_toArray, List.set_cons_zero, List.set_cons_succ])
  (refine seq_read (v := ?_) hS (by rfl) ?_ ?_; rotate_left; focus (intro wq hSq; obtain hq1 := hSq; first | (go_simp; done) | (go_simp; with_reducible rfl))); (try simp only [Act.put, List.setIfInBounds_toArray, List.set_cons_zero, List.set_cons_succ])
  (refine seq_pure (v := ?_) (by rfl) ?_ ?_; rotate_left; focus (intro wq; first | (go_simp; done) | (go_simp; with_reducible rfl))); (try simp only [Act.put, List.setIfInBounds_toArray, List.set_cons_zero, List.set_cons_succ])
  refine seq_act (fun K hK => ?_)
  go_simp
  refine HF.out.mono ?_
  rintro e w1 ⟨rfl, rfl⟩
  refine hK.out _ _ (by exact hS) ?_; clear hK; clear K
  (try simp only [Act.put, List.setIfInBounds_toArray, List.set_cons_zero, List.set_cons_succ])
  refine seq_act (fun K hK => ?_)
  go_simp
  refine hK.out _ _ (by exact hS) ?_; clear hK; clear K
  (try simp only [Act.put, List.setIfInBounds_toArray, List.set_cons_zero, List.set_cons_succ])
  (refine seq_pure (v := ?_) (by rfl) ?_ ?_; rotate_left; focus (intro wq; first | (go_simp; done) | (go_simp; with_reducible rfl))); (try simp only [Act.put, List.setIfInBounds_toArray, List.set_cons_zero, List.set_cons_succ])
  refine seq_act (fun K hK => ?_)
  go_simp
  refine hK.out _ _ (by exact HS.out _ (((Keeps.refl _ _).alloc _).drew)) ?_; clear hK; clear K
  (try simp only [Act.put, List.setIfInBounds_toArray, List.set_cons_zero, List.set_cons_succ])
  (refine seq_pure (v := ?_) (by rfl) ?_ ?_; rotate_left; focus (intro wq; first | (go_simp; done) | (go_simp; with_reducible rfl))); (try simp only [Act.put, List.setIfInBounds_toArray, List.set_cons_zero, List.set_cons_succ])
  refine seq_do (fun K hK => ?_)
  go_simp
  refine hK.out _ _ ?_; clear hK; clear K
  (try simp only [Act.put, List.setIfInBounds_toArray, List.set_cons_zero, List.set_cons_succ])
  refine seq_nil ?_
  clear hS
  rw [show decide ((512 : Int) < (m : Int)) = false by simpa using hm2]
  obtain ⟨w1, hw1⟩ : ∃ w1, (w.alloc (.cells #[.string (xs.extract 0 m), .bool false] 310)).drew = w1 := ⟨_, rfl⟩
  rw [hw1]
  have k1 : Keeps [] w w1 := by rw [← hw1]; exact ((Keeps.refl _ _).alloc _).drew
  have r1 : w1.heap[w.heap.size]? = some (.cells #[.string (xs.extract 0 m), .bool false] 310 (0, 0)) := by rw [← hw1]; exact heap_alloc_self
  have hsp := HA.out _ k1
  have hsl : sb < w.heap.size := by obtain ⟨v, q1, _⟩ := (HA.out w (Keeps.refl _ _)).own; exact lt_of_heap q1
  have H1 := Lib.hid (And.intro k1 (And.intro r1 hsp))
  clear k1 r1 hsp hw1 HF HS
  go_wp2_with fail
  refine leaves_cons (f := 374) (args := #[.pointer (some ⟨sb, 0, none⟩)]) (by simp) (by simp [go_sem]) ?_
  refine (linesForget .returning _ sb ob n ends xs H1.out.2.2 hx0).mono ?_
  rintro e u w2 ⟨rfl, rfl, h2, k2⟩
  have r2 := k2.heap H1.out.2.1 (by simp; omega)
  have y0 : w2.cell? ⟨w.heap.size, 0, none⟩ = some (.string (xs.extract 0 m)) := cell_of_heap r2 rfl
  have y1 : w2.cell? ⟨w.heap.size, 1, none⟩ = some (.bool false) := cell_of_heap r2 rfl
  refine ⟨.agg #[.string (xs.extract 0 m), .bool false], ?_, rfl, h2, (H1.out.1.mono (by simp)).trans k2 (fun _ h _ => h)⟩
  simp only [results, show Tryz.f353.results = #[ResultVar.cell 4 310] from rfl]
  go_simp
end Go.Proofs.Sess
