/- A part of the proof that a session of datagrams answers as the reference (SessionDatagrams). Its contents: contracts of functions of the program, each stated with its premises. -/
import Derived.Test.YtkaafdoplemjhaaGreatDoorProg
import Derived.Test.YtkaafdoplemjhaaGreatDoorSessQA0
import Derived.Test.YtkaafdoplemjhaaGreatDoorSessQA1
import Derived.Test.YtkaafdoplemjhaaGreatDoorSessQA2
import Derived.Lib.Hide
namespace Go.Proofs.Sess
open Go Go.RowKit

set_option maxHeartbeats 400000 in
theorem small_any (c : Nat) (hc : c < 256) (w : World) : Calls Tryz.prog 110 #[.int .u8 c] w fun e w' => e = .returned (.int .u8 (lowN c)) ∧ w = w' := by
  have hc' : (c : Int) ≤ 255 := by omega
  by_cases h1 : (65 : Int) ≤ c
  · by_cases h2 : (c : Int) ≤ 90
    · have hl : (lowN c : Int) = (c : Int) + 97 - 65 := by unfold lowN; rw [if_pos (by omega)]; omega
      have HL := Lib.hid hl
      clear hl
      go_enter Tryz.func110, Tryz.ntmps110
      go_wp2
      go_ret
      exact ⟨ret_int HL.out.symm, rfl⟩
    · have hl : (lowN c : Int) = c := by unfold lowN; rw [if_neg (by omega)]
      have HL := Lib.hid hl
      clear hl
      go_enter Tryz.func110, Tryz.ntmps110
      go_wp2
      go_ret
      exact ⟨ret_int HL.out.symm, rfl⟩
  · have hl : (lowN c : Int) = c := by unfold lowN; rw [if_neg (by omega)]
    have HL := Lib.hid hl
    clear hl
    go_enter Tryz.func110, Tryz.ntmps110
    go_wp2
    go_ret
    exact ⟨ret_int HL.out.symm, rfl⟩

set_option maxHeartbeats 800000 in
theorem allowed_any (c : Nat) (hc : c < 256) (w : World) : Calls Tryz.prog 109 #[.int .u8 c] w fun e w' => e = .returned (.bool (letN c)) ∧ w = w' := by
  have hlt := lowN_lt hc
  have hlc : (lowN c : Int) ≤ 255 := by omega
  have key : letN c = (decide (97 ≤ lowN c ∧ lowN c ≤ 122) || decide (48 ≤ lowN c ∧ lowN c ≤ 57) || decide (lowN c = 45) || decide (lowN c = 95)) := by
    unfold letN; simp [Bool.or_assoc]
  have HK := Lib.hid key
  clear key
  generalize hd : lowN c = d at *
  have HD := Lib.hid hd
  clear hd
  go_enter Tryz.func109, Tryz.ntmps109
  go_wp2_with (go_at_call 110; refine (small_any c hc _).mono ?_; rintro e w' ⟨rfl, rfl⟩; rw [HD.out])
  all_goals
    go_ret
    refine ⟨ret_bool ?_, rfl⟩
    rw [HK.out, Bool.eq_iff_iff]
    simp
    try omega
end Go.Proofs.Sess
namespace Go.Proofs.Sess
open Go Go.RowKit

/-- The reader of a message. -/
def RdObj (s : ByteArray) (i e : Nat) : Obj := .cells #[.string s, .int .i64 (i : Int), .int .i64 (e : Int)] 167 (0, 0)

theorem rd_cells {w : World} {rb : Nat} {s : ByteArray} {i e : Nat} (h : w.heap[rb]? = some (RdObj s i e)) :
    w.cell? ⟨rb, 0, none⟩ = some (.string s) ∧ w.cell? ⟨rb, 1, none⟩ = some (.int .i64 (i : Int)) ∧ w.cell? ⟨rb, 2, none⟩ = some (.int .i64 (e : Int)) ∧
    w.frozen? ⟨rb, 1, none⟩ = false ∧ w.frozen? ⟨rb, 2, none⟩ = false :=
  ⟨cell_of_heap h rfl, cell_of_heap h rfl, cell_of_heap h rfl, free_of_heap h, free_of_heap h⟩

theorem rd_at {w : World} {rb : Nat} {s : ByteArray} {i e : Nat} (h : w.heap[rb]? = some (RdObj s i e)) (j : Nat) :
    (w.setCell ⟨rb, 1, none⟩ (.int .i64 (j : Int))).heap[rb]? = some (RdObj s j e) := by rw [heap_setCell_self h]; rfl
theorem rd_err {w : World} {rb : Nat} {s : ByteArray} {i e : Nat} (h : w.heap[rb]? = some (RdObj s i e)) (f : Nat) :
    (w.setCell ⟨rb, 2, none⟩ (.int .i64 (f : Int))).heap[rb]? = some (RdObj s i f) := by rw [heap_setCell_self h]; rfl

/-- A call on the reader leaves it so. -/
def RdTo (w : World) (rb : Nat) (s : ByteArray) (v : Value) (i e : Nat) (en : Ending) (w' : World) : Prop :=
  en = .returned v ∧ w'.heap[rb]? = some (RdObj s i e) ∧ Keeps [rb] w w'

theorem byt_get (s : ByteArray) (i : Nat) (h : i < s.size) : byt s i = (s[i]'h).toNat := by
  unfold byt
  have h' : i < s.data.toList.length := by simpa using h
  rw [List.getD_eq_getElem?_getD, List.getElem?_eq_getElem h']
  rfl

set_option maxHeartbeats 800000 in
theorem fail_any (w : World) (rb : Nat) (s : ByteArray) (i e k : Nat) (h : w.heap[rb]? = some (RdObj s i e)) :
    Calls Tryz.prog 108 #[.pointer (some ⟨rb, 0, none⟩), .int .i64 (k : Int)] w (RdTo w rb s (.tuple #[]) i (if e = 0 then k else e)) := by
  obtain ⟨c0, c1, c2, f1, f2⟩ := rd_cells h
  have H := Lib.hid h
  clear h
  by_cases he : e = 0
  · subst he
    go_enter Tryz.func108, Tryz.ntmps108
    go_wp2
    go_end0
    exact ⟨rfl, by simpa using rd_err H.out k, (Keeps.refl _ _).setCell (by simp) _⟩
  · have he' : ((e : Int) == 0) = false := by simp; omega
    go_enter Tryz.func108, Tryz.ntmps108
    go_wp2
    go_end0
    exact ⟨rfl, by simpa [he] using H.out, Keeps.refl _ _⟩

set_option maxRecDepth 100000 in
set_option maxHeartbeats 1600000 in
/-- The next byte is there. -/
theorem next_yes (w : World) (rb : Nat) (s : ByteArray) (i : Nat) (h : w.heap[rb]? = some (RdObj s i 0)) (hi : i < s.size) (hs : s.size < 1000000) :
    Calls Tryz.prog 106 #[.pointer (some ⟨rb, 0, none⟩)] w (RdTo w rb s (.int .i64 (byt s i)) (i + 1) 0) := by
  have hS : (fun wx : World => wx.cell? ⟨rb, 0, none⟩ = some (.string s) ∧ wx.cell? ⟨rb, 1, none⟩ = some (.int .i64 (i : Int)) ∧ wx.cell? ⟨rb, 2, none⟩ = some (.int .i64 0)) w.drew := by
    obtain ⟨c0, c1, c2, f1, f2⟩ := rd_cells (w := w.drew) (i := i) (e := 0) h
    exact ⟨c0, c1, c2⟩
  obtain ⟨c0, c1, c2, f1, f2⟩ := rd_cells h
  have H := Lib.hid h
  clear h
  have hlt : (i : Int) < (s.size : Int) := by omega
  go_enter Tryz.func106, Tryz.ntmps106
  go_wp2_with fail
  refine wp_region_seq (fun wx : World => wx.cell? ⟨rb, 0, none⟩ = some (.string s) ∧ wx.cell? ⟨rb, 1, none⟩ = some (.int .i64 (i : Int)) ∧ wx.cell? ⟨rb, 2, none⟩ = some (.int .i64 0))
    [(0, 0), (1, 0), (2, 0), (3, 1), (4, 0), (5, 0), (6, 0), (7, 0), (8, 0), (9, 1), (10, 0), (11, 0), (12, 0), (13, 1), (14, 0), (15, 0), (16, 0)]
    [] (by kernel_rfl) (by kernel_rfl) (fun d _ _ _ _ h => by cases d <;> exact h) ?_
  simp only [picks, List.getD_cons_succ, List.getD_cons_zero]
  (refine seq_pure (v := ?_) (by rfl) ?_ ?_; rotate_left; focus (intro wq; first | (go_simp; done) | (go_simp; with_reducible rfl))); (try simp only [Act.put, List.setIfInBounds_toArray, List.set_cons_zero, List.set_cons_succ])
  (refine seq_pure (v := ?_) (by rfl) ?_ ?_; rotate_left; focus (intro wq; first | (go_simp; done) | (go_simp; with_reducible rfl))); (try simp only [Act.put, List.setIfInBounds_toArray, List.set_cons_zero, List.set_cons_succ])
  (refine seq_pure (v := ?_) (by rfl) ?_ ?_; rotate_left; focus (intro wq; first | (go_simp; done) | (go_simp; with_reducible rfl))); (try simp only [Act.put, List.setIfInBounds_toArray, List.set_cons_zero, List.set_cons_succ])
  (refine seq_read (v := ?_) hS (by rfl) ?_ ?_; rotate_left; focus (intro wq hSq; obtain ⟨hq1, hq2, hq3⟩ := hSq; first | (go_simp; done) | (go_simp; with_reducible rfl))); (try simp only [Act.put, List.setIfInBounds_toArray, List.set_cons_zero, List.set_cons_succ])
  (refine seq_pure (v := ?_) (by rfl) ?_ ?_; rotate_left; focus (intro wq; first | (go_simp; done) | (go_simp; with_reducible rfl))); (try simp only [Act.put, List.setIfInBounds_toArray, List.set_cons_zero, List.set_cons_succ])
  (refine seq_pure (v := ?_) (by rfl) ?_ ?_; rotate_left; focus (intro wq; first | (go_simp; done) | (go_simp; with_reducible rfl))); (try simp only [Act.put, List.setIfInBounds_toArray, List.set_cons_zero, List.set_cons_succ])
  (refine seq_pure (v := ?_) (by rfl) ?_ ?_; rotate_left; focus (intro wq; first | (go_simp; done) | (go_simp; with_reducible rfl))); (try simp only [Act.put, List.setIfInBounds_toArray, List.set_cons_zero, List.set_cons_succ])
  (refine seq_pure (v := ?_) (by rfl) ?_ ?_; rotate_left; focus (intro wq; first | (go_simp; done) | (go_simp; with_reducible rfl))); (try simp only [Act.put, List.setIfInBounds_toArray, List.set_cons_zero, List.set_cons_succ])
  (refine seq_pure (v := ?_) (by rfl) ?_ ?_; rotate_left; focus (intro wq; first | (go_simp; done) | (go_simp; with_reducible rfl))); (try simp only [Act.put, List.setIfInBounds_toArray, List.set_cons_zero, List.set_cons_succ])
  (refine seq_read (v := ?_) hS (by rfl) ?_ ?_; rotate_left; focus (intro wq hSq; obtain ⟨hq1, hq2, hq3⟩ := hSq; first | (go_simp; done) | (go_simp; with_reducible rfl))); (try simp only [Act.put, List.setIfInBounds_toArray, List.set_cons_zero, List.set_cons_succ])
  (refine seq_pure (v := ?_) (by rfl) ?_ ?_; rotate_left; focus (intro wq; first | (go_simp; done) | (go_simp; with_reducible rfl))); (try simp only [Act.put, List.setIfInBounds_toArray, List.set_cons_zero, List.set_cons_succ])
  (refine seq_pure (v := ?_) (by rfl) ?_ ?_; rotate_left; focus (intro wq; first | (go_simp; done) | (go_simp; with_reducible rfl))); (try simp only [Act.put, List.setIfInBounds_toArray, List.set_cons_zero, List.set_cons_succ])
  (refine seq_pure (v := ?_) (by rfl) ?_ ?_; rotate_left; focus (intro wq; first | (go_simp; done) | (go_simp; with_reducible rfl))); (try simp only [Act.put, List.setIfInBounds_toArray, List.set_cons_zero, List.set_cons_succ])
  (refine seq_read (v := ?_) hS (by rfl) ?_ ?_; rotate_left; focus (intro wq hSq; obtain ⟨hq1, hq2, hq3⟩ := hSq; first | (go_simp; done) | (go_simp; with_reducible rfl))); (try simp only [Act.put, List.setIfInBounds_toArray, List.set_cons_zero, List.set_cons_succ])
  (refine seq_pure (v := ?_) (by rfl) ?_ ?_; rotate_left; focus (intro wq; first | (go_simp; done) | (go_simp; with_reducible rfl))); (try simp only [Act.put, List.setIfInBounds_toArray, List.set_cons_zero, List.set_cons_succ])
  (refine seq_pure (v := ?_) (by rfl) ?_ ?_; rotate_left; focus (intro wq; first | (go_simp; done) | (go_simp; with_reducible rfl))); (try simp only [Act.put, List.setIfInBounds_toArray, List.set_cons_zero, List.set_cons_succ])
  (refine seq_pure (v := ?_) (by rfl) ?_ ?_; rotate_left; focus (intro wq; first | (go_simp; done) | (go_simp; with_reducible rfl))); (try simp only [Act.put, List.setIfInBounds_toArray, List.set_cons_zero, List.set_cons_succ])
  refine seq_nil ?_
  clear hS
  go_wp2_with fail
  have h2 : (w.setCell ⟨rb, 1, none⟩ (.int .i64 ((i : Int) + 1))).heap[rb]? = some (RdObj s (i + 1) 0) := rd_at H.out (i + 1)
  have hS : (fun wx : World => wx.cell? ⟨rb, 0, none⟩ = some (.string s) ∧ wx.cell? ⟨rb, 1, none⟩ = some (.int .i64 ((i : Int) + 1)) ∧ wx.cell? ⟨rb, 2, none⟩ = some (.int .i64 0)) (w.setCell ⟨rb, 1, none⟩ (.int .i64 ((i : Int) + 1))).drew.drew := by
    obtain ⟨d0, d1, d2, _, _⟩ := rd_cells h2
    exact ⟨d0, d1, d2⟩
  have hk : Keeps [rb] w (w.setCell ⟨rb, 1, none⟩ (.int .i64 ((i : Int) + 1))) := (Keeps.refl _ _).setCell (by simp) _
  have HK := Lib.hid (And.intro h2 hk)
  clear h2 hk
  have hb : byt s i = (s[i]'hi).toNat := byt_get s i hi
  have hb2 : (s[i]'hi).toNat < 256 := (s[i]'hi).toNat_lt
  have HB := Lib.hid hb
  clear hb
  have hw1 : IntKind.i64.wrap (i : Int) = (i : Int) := IntWalk.i64_in _ (by omega)
  have hw2 : IntKind.i64.wrap ((s[i]'hi).toNat : Int) = ((s[i]'hi).toNat : Int) := IntWalk.i64_in _ (by omega)
  have hi0 : (0 : Int) ≤ (i : Int) := by omega
  refine wp_region_seq (fun wx : World => wx.cell? ⟨rb, 0, none⟩ = some (.string s) ∧ wx.cell? ⟨rb, 1, none⟩ = some (.int .i64 ((i : Int) + 1)) ∧ wx.cell? ⟨rb, 2, none⟩ = some (.int .i64 0))
    [(0, 0), (1, 0), (2, 0), (3, 1), (4, 0), (5, 0), (6, 0), (7, 1), (8, 0), (9, 0), (10, 0), (11, 0)]
    [] (by kernel_rfl) (by kernel_rfl) (fun d _ _ _ _ h => by cases d <;> exact h) ?_
  simp only [picks, List.getD_cons_succ, List.getD_cons_zero]
  (refine seq_pure (v := ?_) (by rfl) ?_ ?_; rotate_left; focus (intro wq; first | (go_simp; done) | (go_simp; with_reducible rfl))); (try simp only [Act.put, List.setIfInBounds_toArray, List.set_cons_zero, List.set_cons_succ])
  (refine seq_pure (v := ?_) (by rfl) ?_ ?_; rotate_left; focus (intro wq; first | (go_simp; done) | (go_simp; with_reducible rfl))); (try simp only [Act.put, List.setIfInBounds_toArray, List.set_cons_zero, List.set_cons_succ])
  (refine seq_pure (v := ?_) (by rfl) ?_ ?_; rotate_left; focus (intro wq; first | (go_simp; done) | (go_simp; with_reducible rfl))); (try simp only [Act.put, List.setIfInBounds_toArray, List.set_cons_zero, List.set_cons_succ])
  (refine seq_read (v := ?_) hS (by rfl) ?_ ?_; rotate_left; focus (intro wq hSq; obtain ⟨hq1, hq2, hq3⟩ := hSq; first | (go_simp; done) | (go_simp; with_reducible rfl))); (try simp only [Act.put, List.setIfInBounds_toArray, List.set_cons_zero, List.set_cons_succ])
  (refine seq_pure (v := ?_) (by rfl) ?_ ?_; rotate_left; focus (intro wq; first | (go_simp; done) | (go_simp; with_reducible rfl))); (try simp only [Act.put, List.setIfInBounds_toArray, List.set_cons_zero, List.set_cons_succ])
  (refine seq_pure (v := ?_) (by rfl) ?_ ?_; rotate_left; focus (intro wq; first | (go_simp; done) | (go_simp; with_reducible rfl))); (try simp only [Act.put, List.setIfInBounds_toArray, List.set_cons_zero, List.set_cons_succ])
  (refine seq_pure (v := ?_) (by rfl) ?_ ?_; rotate_left; focus (intro wq; first | (go_simp; done) | (go_simp; with_reducible rfl))); (try simp only [Act.put, List.setIfInBounds_toArray, List.set_cons_zero, List.set_cons_succ])
  (refine seq_read (v := ?_) hS (by rfl) ?_ ?_; rotate_left; focus (intro wq hSq; obtain ⟨hq1, hq2, hq3⟩ := hSq; first | (go_simp; done) | (go_simp; with_reducible rfl))); (try simp only [Act.put, List.setIfInBounds_toArray, List.set_cons_zero, List.set_cons_succ])
  (refine seq_pure (v := ?_) (by rfl) ?_ ?_; rotate_left; focus (intro wq; first | (go_simp; done) | (go_simp; with_reducible rfl))); (try simp only [Act.put, List.setIfInBounds_toArray, List.set_cons_zero, List.set_cons_succ])
  (refine seq_pure (v := ?_) (by rfl) ?_ ?_; rotate_left; focus (intro wq; first | (go_simp; done) | (go_simp; with_reducible rfl))); (try simp only [Act.put, List.setIfInBounds_toArray, List.set_cons_zero, List.set_cons_succ])
  (refine seq_pure (v := ?_) (by rfl) ?_ ?_; rotate_left; focus (intro wq; first | (go_simp; done) | (go_simp; with_reducible rfl))); (try simp only [Act.put, List.setIfInBounds_toArray, List.set_cons_zero, List.set_cons_succ])
  (refine seq_pure (v := ?_) (by rfl) ?_ ?_; rotate_left; focus (intro wq; first | (go_simp; done) | (go_simp; with_reducible rfl))); (try simp only [Act.put, List.setIfInBounds_toArray, List.set_cons_zero, List.set_cons_succ])
  refine seq_nil ?_
  clear hS hw1 hw2
  go_wp2_with fail
  go_ret
  exact ⟨ret_int (by rw [HB.out]), HK.out.1, HK.out.2.drew.drew⟩

set_option maxRecDepth 100000 in
set_option maxHeartbeats 1600000 in
/-- There is no next byte. -/
theorem next_no (w : World) (rb : Nat) (s : ByteArray) (i : Nat) (h : w.heap[rb]? = some (RdObj s i 0)) (hi : s.size ≤ i) :
    Calls Tryz.prog 106 #[.pointer (some ⟨rb, 0, none⟩)] w (RdTo w rb s (.int .i64 0) i 1) := by
  have hS : (fun wx : World => wx.cell? ⟨rb, 0, none⟩ = some (.string s) ∧ wx.cell? ⟨rb, 1, none⟩ = some (.int .i64 (i : Int)) ∧ wx.cell? ⟨rb, 2, none⟩ = some (.int .i64 0)) w.drew := by
    obtain ⟨c0, c1, c2, f1, f2⟩ := rd_cells (w := w.drew) (i := i) (e := 0) h
    exact ⟨c0, c1, c2⟩
  obtain ⟨c0, c1, c2, f1, f2⟩ := rd_cells h
  have hk : (w.setCell ⟨rb, 2, none⟩ (.int .i64 ((1 : Nat) : Int))).heap[rb]? = some (RdObj s i 1) := rd_err h 1
  have HK := Lib.hid hk
  clear h hk
  have hlt : (s.size : Int) ≤ (i : Int) := by omega
  go_enter Tryz.func106, Tryz.ntmps106
  go_wp2_with fail
  refine wp_region_seq (fun wx : World => wx.cell? ⟨rb, 0, none⟩ = some (.string s) ∧ wx.cell? ⟨rb, 1, none⟩ = some (.int .i64 (i : Int)) ∧ wx.cell? ⟨rb, 2, none⟩ = some (.int .i64 0))
    [(0, 0), (1, 0), (2, 0), (3, 1), (4, 0), (5, 0), (6, 0), (7, 0), (8, 0), (9, 1), (10, 0), (11, 0), (12, 0), (13, 1), (14, 0), (15, 0), (16, 0)]
    [] (by kernel_rfl) (by kernel_rfl) (fun d _ _ _ _ h => by cases d <;> exact h) ?_
  simp only [picks, List.getD_cons_succ, List.getD_cons_zero]
  (refine seq_pure (v := ?_) (by rfl) ?_ ?_; rotate_left; focus (intro wq; first | (go_simp; done) | (go_simp; with_reducible rfl))); (try simp only [Act.put, List.setIfInBounds_toArray, List.set_cons_zero, List.set_cons_succ])
  (refine seq_pure (v := ?_) (by rfl) ?_ ?_; rotate_left; focus (intro wq; first | (go_simp; done) | (go_simp; with_reducible rfl))); (try simp only [Act.put, List.setIfInBounds_toArray, List.set_cons_zero, List.set_cons_succ])
  (refine seq_pure (v := ?_) (by rfl) ?_ ?_; rotate_left; focus (intro wq; first | (go_simp; done) | (go_simp; with_reducible rfl))); (try simp only [Act.put, List.setIfInBounds_toArray, List.set_cons_zero, List.set_cons_succ])
  (refine seq_read (v := ?_) hS (by rfl) ?_ ?_; rotate_left; focus (intro wq hSq; obtain ⟨hq1, hq2, hq3⟩ := hSq; first | (go_simp; done) | (go_simp; with_reducible rfl))); (try simp only [Act.put, List.setIfInBounds_toArray, List.set_cons_zero, List.set_cons_succ])
  (refine seq_pure (v := ?_) (by rfl) ?_ ?_; rotate_left; focus (intro wq; first | (go_simp; done) | (go_simp; with_reducible rfl))); (try simp only [Act.put, List.setIfInBounds_toArray, List.set_cons_zero, List.set_cons_succ])
  (refine seq_pure (v := ?_) (by rfl) ?_ ?_; rotate_left; focus (intro wq; first | (go_simp; done) | (go_simp; with_reducible rfl))); (try simp only [Act.put, List.setIfInBounds_toArray, List.set_cons_zero, List.set_cons_succ])
  (refine seq_pure (v := ?_) (by rfl) ?_ ?_; rotate_left; focus (intro wq; first | (go_simp; done) | (go_simp; with_reducible rfl))); (try simp only [Act.put, List.setIfInBounds_toArray, List.set_cons_zero, List.set_cons_succ])
  (refine seq_pure (v := ?_) (by rfl) ?_ ?_; rotate_left; focus (intro wq; first | (go_simp; done) | (go_simp; with_reducible rfl))); (try simp only [Act.put, List.setIfInBounds_toArray, List.set_cons_zero, List.set_cons_succ])
  (refine seq_pure (v := ?_) (by rfl) ?_ ?_; rotate_left; focus (intro wq; first | (go_simp; done) | (go_simp; with_reducible rfl))); (try simp only [Act.put, List.setIfInBounds_toArray, List.set_cons_zero, List.set_cons_succ])
  (refine seq_read (v := ?_) hS (by rfl) ?_ ?_; rotate_left; focus (intro wq hSq; obtain ⟨hq1, hq2, hq3⟩ := hSq; first | (go_simp; done) | (go_simp; with_reducible rfl))); (try simp only [Act.put, List.setIfInBounds_toArray, List.set_cons_zero, List.set_cons_succ])
  (refine seq_pure (v := ?_) (by rfl) ?_ ?_; rotate_left; focus (intro wq; first | (go_simp; done) | (go_simp; with_reducible rfl))); (try simp only [Act.put, List.setIfInBounds_toArray, List.set_cons_zero, List.set_cons_succ])
  (refine seq_pure (v := ?_) (by rfl) ?_ ?_; rotate_left; focus (intro wq; first | (go_simp; done) | (go_simp; with_reducible rfl))); (try simp only [Act.put, List.setIfInBounds_toArray, List.set_cons_zero, List.set_cons_succ])
  (refine seq_pure (v := ?_) (by rfl) ?_ ?_; rotate_left; focus (intro wq; first | (go_simp; done) | (go_simp; with_reducible rfl))); (try simp only [Act.put, List.setIfInBounds_toArray, List.set_cons_zero, List.set_cons_succ])
  (refine seq_read (v := ?_) hS (by rfl) ?_ ?_; rotate_left; focus (intro wq hSq; obtain ⟨hq1, hq2, hq3⟩ := hSq; first | (go_simp; done) | (go_simp; with_reducible rfl))); (try simp only [Act.put, List.setIfInBounds_toArray, List.set_cons_zero, List.set_cons_succ])
  (refine seq_pure (v := ?_) (by rfl) ?_ ?_; rotate_left; focus (intro wq; first | (go_simp; done) | (go_simp; with_reducible rfl))); (try simp only [Act.put, List.setIfInBounds_toArray, List.set_cons_zero, List.set_cons_succ])
  (refine seq_pure (v := ?_) (by rfl) ?_ ?_; rotate_left; focus (intro wq; first | (go_simp; done) | (go_simp; with_reducible rfl))); (try simp only [Act.put, List.setIfInBounds_toArray, List.set_cons_zero, List.set_cons_succ])
  (refine seq_pure (v := ?_) (by rfl) ?_ ?_; rotate_left; focus (intro wq; first | (go_simp; done) | (go_simp; with_reducible rfl))); (try simp only [Act.put, List.setIfInBounds_toArray, List.set_cons_zero, List.set_cons_succ])
  refine seq_nil ?_
  clear hS
  go_wp2_with fail
  go_ret
  exact ⟨rfl, HK.out, ((Keeps.refl _ _).setCell (by simp) _).drew⟩

set_option maxRecDepth 100000 in
set_option maxHeartbeats 1600000 in
/-- An error stands. -/
theorem next_err (w : World) (rb : Nat) (s : ByteArray) (i e : Nat) (h : w.heap[rb]? = some (RdObj s i e)) (he : e ≠ 0) :
    Calls Tryz.prog 106 #[.pointer (some ⟨rb, 0, none⟩)] w (RdTo w rb s (.int .i64 0) i e) := by
  have hS : (fun wx : World => wx.cell? ⟨rb, 0, none⟩ = some (.string s) ∧ wx.cell? ⟨rb, 1, none⟩ = some (.int .i64 (i : Int)) ∧ wx.cell? ⟨rb, 2, none⟩ = some (.int .i64 (e : Int))) w.drew := by
    obtain ⟨c0, c1, c2, f1, f2⟩ := rd_cells (w := w.drew) (i := i) (e := e) h
    exact ⟨c0, c1, c2⟩
  obtain ⟨c0, c1, c2, f1, f2⟩ := rd_cells h
  have HK := Lib.hid h
  clear h
  have he1 : ((e : Int) == 0) = false := by simp; omega
  have he2 : ((e : Int) != 0) = true := by simp; omega
  go_enter Tryz.func106, Tryz.ntmps106
  go_wp2_with fail
  refine wp_region_seq (fun wx : World => wx.cell? ⟨rb, 0, none⟩ = some (.string s) ∧ wx.cell? ⟨rb, 1, none⟩ = some (.int .i64 (i : Int)) ∧ wx.cell? ⟨rb, 2, none⟩ = some (.int .i64 (e : Int)))
    [(0, 0), (1, 0), (2, 0), (3, 1), (4, 0), (5, 0), (6, 0), (7, 0), (8, 0), (9, 1), (10, 0), (11, 0), (12, 0), (13, 1), (14, 0), (15, 0), (16, 0)]
    [] (by kernel_rfl) (by kernel_rfl) (fun d _ _ _ _ h => by cases d <;> exact h) ?_
  simp only [picks, List.getD_cons_succ, List.getD_cons_zero]
  (refine seq_pure (v := ?_) (by rfl) ?_ ?_; rotate_left; focus (intro wq; first | (go_simp; done) | (go_simp; with_reducible rfl))); (try simp only [Act.put, List.setIfInBounds_toArray, List.set_cons_zero, List.set_cons_succ])
  (refine seq_pure (v := ?_) (by rfl) ?_ ?_; rotate_left; focus (intro wq; first | (go_simp; done) | (go_simp; with_reducible rfl))); (try simp only [Act.put, List.setIfInBounds_toArray, List.set_cons_zero, List.set_cons_succ])
  (refine seq_pure (v := ?_) (by rfl) ?_ ?_; rotate_left; focus (intro wq; first | (go_simp; done) | (go_simp; with_reducible rfl))); (try simp only [Act.put, List.setIfInBounds_toArray, List.set_cons_zero, List.set_cons_succ])
  (refine seq_read (v := ?_) hS (by rfl) ?_ ?_; rotate_left; focus (intro wq hSq; obtain ⟨hq1, hq2, hq3⟩ := hSq; first | (go_simp; done) | (go_simp; with_reducible rfl))); (try simp only [Act.put, List.setIfInBounds_toArray, List.set_cons_zero, List.set_cons_succ])
  (refine seq_pure (v := ?_) (by rfl) ?_ ?_; rotate_left; focus (intro wq; first | (go_simp; done) | (go_simp; with_reducible rfl))); (try simp only [Act.put, List.setIfInBounds_toArray, List.set_cons_zero, List.set_cons_succ])
  (refine seq_pure (v := ?_) (by rfl) ?_ ?_; rotate_left; focus (intro wq; first | (go_simp; done) | (go_simp; with_reducible rfl))); (try simp only [Act.put, List.setIfInBounds_toArray, List.set_cons_zero, List.set_cons_succ])
  (refine seq_skip (by rfl) ?_); (try simp only [Act.put, List.setIfInBounds_toArray, List.set_cons_zero, List.set_cons_succ])
  (refine seq_skip (by rfl) ?_); (try simp only [Act.put, List.setIfInBounds_toArray, List.set_cons_zero, List.set_cons_succ])
  (refine seq_skip (by rfl) ?_); (try simp only [Act.put, List.setIfInBounds_toArray, List.set_cons_zero, List.set_cons_succ])
  (refine seq_read_skip hS (by rfl) ?_); (try simp only [Act.put, List.setIfInBounds_toArray, List.set_cons_zero, List.set_cons_succ])
  (refine seq_skip (by rfl) ?_); (try simp only [Act.put, List.setIfInBounds_toArray, List.set_cons_zero, List.set_cons_succ])
  (refine seq_skip (by rfl) ?_); (try simp only [Act.put, List.setIfInBounds_toArray, List.set_cons_zero, List.set_cons_succ])
  (refine seq_skip (by rfl) ?_); (try simp only [Act.put, List.setIfInBounds_toArray, List.set_cons_zero, List.set_cons_succ])
  (refine seq_read_skip hS (by rfl) ?_); (try simp only [Act.put, List.setIfInBounds_toArray, List.set_cons_zero, List.set_cons_succ])
  (refine seq_skip (by rfl) ?_); (try simp only [Act.put, List.setIfInBounds_toArray, List.set_cons_zero, List.set_cons_succ])
  (refine seq_skip (by rfl) ?_); (try simp only [Act.put, List.setIfInBounds_toArray, List.set_cons_zero, List.set_cons_succ])
  (refine seq_pure (v := ?_) (by rfl) ?_ ?_; rotate_left; focus (intro wq; first | (go_simp; done) | (go_simp; with_reducible rfl))); (try simp only [Act.put, List.setIfInBounds_toArray, List.set_cons_zero, List.set_cons_succ])
  refine seq_nil ?_
  clear hS
  go_wp2_with fail
  go_ret
  exact ⟨rfl, HK.out, (Keeps.refl _ _).drew⟩

/-- The next byte, in plain words: what it is, the place, the error. -/
def nxt (s : ByteArray) (i e : Nat) : Nat × Nat × Nat := if e = 0 then if i < s.size then (byt s i, i + 1, 0) else (0, i, 1) else (0, i, e)

theorem next_any (w : World) (rb : Nat) (s : ByteArray) (i e : Nat) (h : w.heap[rb]? = some (RdObj s i e)) (hs : s.size < 1000000) :
    Calls Tryz.prog 106 #[.pointer (some ⟨rb, 0, none⟩)] w (RdTo w rb s (.int .i64 (nxt s i e).1) (nxt s i e).2.1 (nxt s i e).2.2) := by
  unfold nxt
  by_cases he : e = 0
  · subst he
    by_cases hi : i < s.size
    · simpa [hi] using next_yes w rb s i h hi hs
    · simpa [hi] using next_no w rb s i h (by omega)
  · simpa [he] using next_err w rb s i e h he

/-- The next number of k bytes, onto n. -/
def num (s : ByteArray) : Nat → Nat → Nat → Nat → Nat × Nat × Nat
  | 0, n, i, e => (n, i, e)
  | k + 1, n, i, e => num s k (n * 256 + (nxt s i e).1) (nxt s i e).2.1 (nxt s i e).2.2

theorem num_last (s : ByteArray) : ∀ (k n i e : Nat), num s (k + 1) n i e = ((num s k n i e).1 * 256 + (nxt s (num s k n i e).2.1 (num s k n i e).2.2).1, (nxt s (num s k n i e).2.1 (num s k n i e).2.2).2)
  | 0, _, _, _ => rfl
  | k + 1, n, i, e => by
    rw [num, num_last s k]
    rfl

theorem nxt_lt (s : ByteArray) (i e : Nat) : (nxt s i e).1 < 256 := by
  unfold nxt
  split
  · split
    · exact byt_lt s i
    · simp
  · simp

theorem num_lt (s : ByteArray) : ∀ (k n i e : Nat), (num s k n i e).1 < (n + 1) * 256 ^ k
  | 0, n, i, e => by simp [num]
  | k + 1, n, i, e => by
    have h1 := num_lt s k (n * 256 + (nxt s i e).1) (nxt s i e).2.1 (nxt s i e).2.2
    have h2 := nxt_lt s i e
    rw [num]
    refine Nat.lt_of_lt_of_le h1 ?_
    rw [Nat.pow_succ, Nat.mul_comm (256 ^ k) 256, ← Nat.mul_assoc]
    exact Nat.mul_le_mul_right _ (by omega)

theorem i64_or_nat (a b : Nat) (ha : a < 4611686018427387904) (hb : b < 4611686018427387904) : bits .or .i64 (a : Int) (b : Int) = ((a ||| b : Nat) : Int) := by
  have hx : a ||| b < 2 ^ 62 := Nat.or_lt_two_pow (by omega) (by omega)
  have h1 : (BitVec.ofInt 64 (a : Int)).toNat = a := by
    rw [BitVec.ofInt_natCast, BitVec.toNat_ofNat]; exact Nat.mod_eq_of_lt (by omega)
  have h2 : (BitVec.ofInt 64 (b : Int)).toNat = b := by
    rw [BitVec.ofInt_natCast, BitVec.toNat_ofNat]; exact Nat.mod_eq_of_lt (by omega)
  show IntKind.i64.wrap ((BitVec.ofInt 64 (a : Int) ||| BitVec.ofInt 64 (b : Int)).toNat : Int) = _
  rw [BitVec.toNat_or, h1, h2, IntKind.wrap_i64]
  omega

theorem or_byte (n b : Nat) (hn : n < 16777216) (hb : b < 256) : bits .or .i64 ((n : Int) * 256) (b : Int) = ((n * 256 + b : Nat) : Int) := by
  have h := i64_or_nat (n * 256) b (by omega) (by omega)
  rw [show ((n : Int) * 256) = ((n * 256 : Nat) : Int) by omega, h]
  congr 1
  rw [show n * 256 = 2 ^ 8 * n by omega]
  exact (Nat.two_pow_add_eq_or_of_lt hb n).symm

set_option maxRecDepth 100000 in
set_option maxHeartbeats 1600000 in
theorem number_any (w : World) (rb : Nat) (s : ByteArray) (i e k : Nat) (h : w.heap[rb]? = some (RdObj s i e)) (hs : s.size < 1000000) (hk : k ≤ 4) :
    Calls Tryz.prog 82 #[.pointer (some ⟨rb, 0, none⟩), .int .i64 (k : Int)] w (RdTo w rb s (.int .i64 (num s k 0 i e).1) (num s k 0 i e).2.1 (num s k 0 i e).2.2) := by
  have H := Lib.hid h
  clear h
  go_enter Tryz.func82, Tryz.ntmps82
  go_wp2_with fail
  go_loopw [5, 7] (fun n j wr => ∃ q : Nat, q ≤ k ∧ j = .int .i64 q ∧ n = .int .i64 (num s q 0 i e).1 ∧ RdTo w rb s (.tuple #[]) (num s q 0 i e).2.1 (num s q 0 i e).2.2 (.returned (.tuple #[])) wr) (fun _ j _ => k - (intOf j).toNat)
  case atStart => exact ⟨0, Nat.zero_le _, rfl, rfl, rfl, H.out, Keeps.refl _ _⟩
  case round =>
    obtain ⟨q, hq, rfl, rfl, -, hr, hkp⟩ := hrel
    by_cases hlt : q < k
    · have hb := num_lt s q 0 i e
      have HR := Lib.hid hr
      have HKP := Lib.hid hkp
      have HL := Lib.hid (num_last s q 0 i e)
      have hb2 : (num s q 0 i e).1 < 16777216 := by
        have : 256 ^ q ≤ 256 ^ 3 := Nat.pow_le_pow_right (by omega) (by omega)
        omega
      clear hr hkp hb
      generalize hn : num s q 0 i e = p at *
      obtain ⟨pn, pi, pe⟩ := p
      have HN := Lib.hid hn
      clear hn
      dsimp only at *
      go_wp2_with fail
      refine (next_any _ rb s pi pe HR.out hs).mono ?_
      rintro en w2 ⟨rfl, h2, k2⟩
      have hb3 := nxt_lt s pi pe
      generalize hx : nxt s pi pe = x at *
      obtain ⟨xb, xi, xe⟩ := x
      have HX := Lib.hid hx
      have H2 := Lib.hid h2
      have KP := Lib.hid (HKP.out.trans k2 (fun _ h _ => h))
      clear hx h2 k2
      dsimp only at *
      go_wp2_with fail
      go_roundw
      case rel =>
        refine ⟨q + 1, by omega, by go_num, ?_, ?_⟩
        · rw [HL.out]
          exact congrArg _ (or_byte pn xb hb2 hb3)
        · rw [HL.out]
          exact ⟨rfl, H2.out, KP.out⟩
      case measure => simp [intOf]; omega
    · have hqk : q = k := by omega
      subst hqk
      have HR := Lib.hid hr
      have HKP := Lib.hid hkp
      clear hr hkp
      go_wp2_with fail
      go_ret
      exact ⟨rfl, HR.out, HKP.out⟩
end Go.Proofs.Sess
namespace Go.Proofs.Sess
open Go Go.RowKit

/-- The error behind the class. -/
def classE (n e : Nat) : Nat := if n = 1 then e else if e = 0 then 2 else e

theorem failE (e : Nat) : (if e = 0 then 2 else e) = classE 0 e := by unfold classE; simp

set_option maxHeartbeats 800000 in
theorem class_any (w : World) (rb : Nat) (s : ByteArray) (i e : Nat) (h : w.heap[rb]? = some (RdObj s i e)) (hs : s.size < 1000000) :
    Calls Tryz.prog 84 #[.pointer (some ⟨rb, 0, none⟩)] w (RdTo w rb s (.tuple #[]) (num s 2 0 i e).2.1 (classE (num s 2 0 i e).1 (num s 2 0 i e).2.2)) := by
  have hn := number_any w rb s i e 2 h hs (by omega)
  generalize num s 2 0 i e = p at *
  obtain ⟨pn, pi, pe⟩ := p
  have HN := Lib.hid hn
  clear h hn
  dsimp only
  by_cases h1 : pn = 1
  · subst h1
    have hc : classE 1 pe = pe := rfl
    rw [hc]
    clear hc
    go_enter Tryz.func84, Tryz.ntmps84
    go_wp2_with (go_at_call 82; refine HN.out.mono ?_; rintro en w2 ⟨rfl, h2, k2⟩; have H2 := Lib.hid h2; have K2 := Lib.hid k2; clear h2 k2)
    go_end0
    exact ⟨rfl, H2.out, K2.out⟩
  · have h1' : ((pn : Int) != 1) = true := by simp; omega
    have hc : classE pn pe = classE 0 pe := by unfold classE; rw [if_neg h1]; simp
    rw [hc]
    clear hc
    go_enter Tryz.func84, Tryz.ntmps84
    go_wp2_with (first
      | (go_at_call 82; refine HN.out.mono ?_; rintro en w2 ⟨rfl, h2, k2⟩; have H2 := Lib.hid h2; have K2 := Lib.hid k2; clear h2 k2)
      | (go_at_call 108; have hf := fail_any w2 rb s pi pe 2 H2.out; rw [failE] at hf; refine hf.mono ?_; rintro en w3 ⟨rfl, h3, k3⟩; have H3 := Lib.hid h3; have K3 := Lib.hid (K2.out.trans k3 (fun _ h _ => h)); clear h3 k3))
    go_end0
    exact ⟨rfl, H3.out, K3.out⟩

end Go.Proofs.Sess
