/- A part of the proof that a session of datagrams answers as the reference (SessionDatagrams). Its contents: contracts of functions of the program, each stated with its premises. -/
import Derived.Test.YtkaafdoplemjhaaGreatDoorSessQB7
import Derived.Test.YtkaafdoplemjhaaGreatDoorSessQC2
/- play, and SessionDatagrams. -/
namespace Go.Proofs.Sess
open Go Go.RowKit

/-- Both sessions at a round of play. -/
structure PlayAt (wr : World) (B b mb wa wb rb : Nat) (cs rcs : Array Value) (f : Int → Int → Int) (app : Int) (e1 e2 : Bool) (N : Int) : Prop where
  sess : SessAt wr b mb none cs f []
  ucs : UCs cs app e1 e2 wa wb
  wa : wr.heap[wa]? = some (WinObj 1 1 0 0 (.slice none 0 0))
  wb : wr.heap[wb]? = some (WinObj 1 2 0 0 (.slice none 0 0))
  ref : RefAt wr rb rcs f app e1 e2
  cnt : CntLe f N
  tab : TabIn B wr
  size : B ≤ wr.heap.size
theorem PlayAt.reflt {wr : World} {B b mb wa wb rb : Nat} {cs rcs : Array Value} {f : Int → Int → Int} {app : Int} {e1 e2 : Bool} {N : Int} (h : PlayAt wr B b mb wa wb rb cs rcs f app e1 e2 N) : rb < wr.heap.size := lt_of_heap h.ref.heap
theorem PlayAt.ne {wr : World} {B b mb wa wb rb : Nat} {cs rcs : Array Value} {f : Int → Int → Int} {app : Int} {e1 e2 : Bool} {N : Int} (h : PlayAt wr B b mb wa wb rb cs rcs f app e1 e2 N) : rb ≠ b ∧ rb ≠ mb ∧ wa ≠ b ∧ wa ≠ mb ∧ wb ≠ b ∧ wb ≠ mb ∧ wa ≠ rb ∧ wb ≠ rb := by
  obtain ⟨ov, h1, _, _⟩ := h.sess.own
  obtain ⟨L, c, h2, _⟩ := h.sess.idx
  have h2 := h2.heap
  have map_ne : ∀ {q : Nat} {x : Array Value} {t : TypeId} {fr : Nat × Nat}, wr.heap[q]? = some (.cells x t fr) → q ≠ mb := fun hq e => by
    subst e; rw [hq] at h2; cases h2
  exact ⟨cells_ne h.ref.heap h1 (by decide), map_ne h.ref.heap, cells_ne h.wa h1 (by decide), map_ne h.wa, cells_ne h.wb h1 (by decide), map_ne h.wb, cells_ne h.wa h.ref.heap (by decide), cells_ne h.wb h.ref.heap (by decide)⟩

set_option maxRecDepth 100000 in
set_option maxHeartbeats 8000000 in
theorem play_udp (w : World) (app b1 b2 : Int) (ta la : Option Addr) (tn tc ln lc : Nat) (nns : Nat → Nat) (cl : Nat → CallW) (ht : TrustIn w ta tn nns) (hc : CallsAt w la ln cl) (hf : FewP tn nns ln cl) (htab : TabIn w.heap.size w) :
    Calls Tryz.prog 14 #[.int .i64 17, .agg #[.int .i64 app, .slice ta tn tc, .int .i64 b1, .int .i64 b2], .slice la ln lc] w fun e w' => e = .returned (.bool true) ∧ Keeps [] w w' := by
  have HP := Lib.hid hf
  have h40 : ln ≤ 40 := hf.1
  have hk0 : Keeps [] w (w.alloc (.cells #[.int .i64 app, .slice ta tn tc, .int .i64 b1, .int .i64 b2] 26)) := (Keeps.refl _ _).alloc _
  have hh0 : (w.alloc (.cells #[.int .i64 app, .slice ta tn tc, .int .i64 b1, .int .i64 b2] 26)).heap[w.heap.size]? = some (.cells #[.int .i64 app, .slice ta tn tc, .int .i64 b1, .int .i64 b2] 26 (0, 0)) := heap_alloc_self
  have HC := Lib.hid hc
  have H0 := Lib.hid (And.intro hh0 (And.intro hk0 (And.intro (ht.keep hk0) (And.intro (htab.keep hk0 (by simp)) hk0.size))))
  clear ht hc hf htab hk0 hh0
  go_enter Tryz.func14, Tryz.ntmps14
  go_upto_region 1 with fail
  revert H0
  generalize w.alloc (.cells #[.int .i64 app, .slice ta tn tc, .int .i64 b1, .int .i64 b2] 26) = W0
  intro H0
  generalize hqb : w.heap.size = qb at *
  have hS : (fun wx : World => wx.cell? ⟨qb, 0, none⟩ = some (.int .i64 app) ∧ wx.cell? ⟨qb, 1, none⟩ = some (.slice ta tn tc) ∧ wx.cell? ⟨qb, 2, none⟩ = some (.int .i64 b1) ∧ wx.cell? ⟨qb, 3, none⟩ = some (.int .i64 b2)) W0.drew := ⟨cell_of_heap (w := W0.drew) H0.out.1 rfl, cell_of_heap (w := W0.drew) H0.out.1 rfl, cell_of_heap (w := W0.drew) H0.out.1 rfl, cell_of_heap (w := W0.drew) H0.out.1 rfl⟩
  refine wp_region_seq (fun wx : World => wx.cell? ⟨qb, 0, none⟩ = some (.int .i64 app) ∧ wx.cell? ⟨qb, 1, none⟩ = some (.slice ta tn tc) ∧ wx.cell? ⟨qb, 2, none⟩ = some (.int .i64 b1) ∧ wx.cell? ⟨qb, 3, none⟩ = some (.int .i64 b2))
    [(0, 0), (1, 0), (2, 1), (3, 0), (4, 1), (5, 0), (6, 1), (8, 0), (9, 0), (10, 1), (11, 0), (12, 1), (13, 0), (14, 1), (7, 2), (15, 3), (16, 0), (17, 0)]
    [[15, 7, 2], [15, 7, 4], [15, 7, 6], [15, 10], [15, 12], [15, 14]] (by kernel_rfl) (by kernel_rfl) (fun d _ _ _ _ h => by cases d <;> exact h) ?_
  simp only [picks, List.getD_cons_succ, List.getD_cons_zero]
  (refine seq_pure (v := ?_) (by rfl) ?_ ?_; rotate_left; focus (intro wq; first | (go_simp; done) | (go_simp; with_reducible rfl))); (try simp only [Act.put, List.setIfInBounds_toArray, List.set_cons_zero, List.set_cons_succ])
  (refine seq_pure (v := ?_) (by rfl) ?_ ?_; rotate_left; focus (intro wq; first | (go_simp; done) | (go_simp; with_reducible rfl))); (try simp only [Act.put, List.setIfInBounds_toArray, List.set_cons_zero, List.set_cons_succ])
  (refine seq_read (v := ?_) hS (by rfl) ?_ ?_; rotate_left; focus (intro wq hSq; obtain ⟨hq1, hq2, hq3, hq4⟩ := hSq; first | (go_simp; done) | (go_simp; with_reducible rfl))); (try simp only [Act.put, List.setIfInBounds_toArray, List.set_cons_zero, List.set_cons_succ])
  (refine seq_pure (v := ?_) (by rfl) ?_ ?_; rotate_left; focus (intro wq; first | (go_simp; done) | (go_simp; with_reducible rfl))); (try simp only [Act.put, List.setIfInBounds_toArray, List.set_cons_zero, List.set_cons_succ])
  (refine seq_read (v := ?_) hS (by rfl) ?_ ?_; rotate_left; focus (intro wq hSq; obtain ⟨hq1, hq2, hq3, hq4⟩ := hSq; first | (go_simp; done) | (go_simp; with_reducible rfl))); (try simp only [Act.put, List.setIfInBounds_toArray, List.set_cons_zero, List.set_cons_succ])
  (refine seq_pure (v := ?_) (by rfl) ?_ ?_; rotate_left; focus (intro wq; first | (go_simp; done) | (go_simp; with_reducible rfl))); (try simp only [Act.put, List.setIfInBounds_toArray, List.set_cons_zero, List.set_cons_succ])
  (refine seq_read (v := ?_) hS (by rfl) ?_ ?_; rotate_left; focus (intro wq hSq; obtain ⟨hq1, hq2, hq3, hq4⟩ := hSq; first | (go_simp; done) | (go_simp; with_reducible rfl))); (try simp only [Act.put, List.setIfInBounds_toArray, List.set_cons_zero, List.set_cons_succ])
  (refine seq_pure (v := ?_) (by rfl) ?_ ?_; rotate_left; focus (intro wq; first | (go_simp; done) | (go_simp; with_reducible rfl))); (try simp only [Act.put, List.setIfInBounds_toArray, List.set_cons_zero, List.set_cons_succ])
  (refine seq_pure (v := ?_) (by rfl) ?_ ?_; rotate_left; focus (intro wq; first | (go_simp; done) | (go_simp; with_reducible rfl))); (try simp only [Act.put, List.setIfInBounds_toArray, List.set_cons_zero, List.set_cons_succ])
  (refine seq_read (v := ?_) hS (by rfl) ?_ ?_; rotate_left; focus (intro wq hSq; obtain ⟨hq1, hq2, hq3, hq4⟩ := hSq; first | (go_simp; done) | (go_simp; with_reducible rfl))); (try simp only [Act.put, List.setIfInBounds_toArray, List.set_cons_zero, List.set_cons_succ])
  (refine seq_pure (v := ?_) (by rfl) ?_ ?_; rotate_left; focus (intro wq; first | (go_simp; done) | (go_simp; with_reducible rfl))); (try simp only [Act.put, List.setIfInBounds_toArray, List.set_cons_zero, List.set_cons_succ])
  (refine seq_read (v := ?_) hS (by rfl) ?_ ?_; rotate_left; focus (intro wq hSq; obtain ⟨hq1, hq2, hq3, hq4⟩ := hSq; first | (go_simp; done) | (go_simp; with_reducible rfl))); (try simp only [Act.put, List.setIfInBounds_toArray, List.set_cons_zero, List.set_cons_succ])
  (refine seq_pure (v := ?_) (by rfl) ?_ ?_; rotate_left; focus (intro wq; first | (go_simp; done) | (go_simp; with_reducible rfl))); (try simp only [Act.put, List.setIfInBounds_toArray, List.set_cons_zero, List.set_cons_succ])
  (refine seq_read (v := ?_) hS (by rfl) ?_ ?_; rotate_left; focus (intro wq hSq; obtain ⟨hq1, hq2, hq3, hq4⟩ := hSq; first | (go_simp; done) | (go_simp; with_reducible rfl))); (try simp only [Act.put, List.setIfInBounds_toArray, List.set_cons_zero, List.set_cons_succ])
  refine seq_act (fun K hK => ?_)
  go_simp
  refine (sessNewU W0.drew app b1 b2 ta tn tc nns (H0.out.2.2.1.keep (Keeps.refl _ _).drew) HP.out.2.1 HP.out.2.2.2).mono ?_
  rintro e w1 ⟨b, mb, wa, wb, cs, rfl, hs, hu, hwa, hwb, hb1, hb2, hk1⟩
  have hk1' : Keeps [] W0 w1 := (Keeps.refl _ _).drew.trans hk1 (by simp)
  have hS1 := And.intro (hk1.cell hS.1 (by simp)) (And.intro (hk1.cell hS.2.1 (by simp)) (And.intro (hk1.cell hS.2.2.1 (by simp)) (hk1.cell hS.2.2.2 (by simp))))
  have H1 := Lib.hid (And.intro hs (And.intro hu (And.intro hwa (And.intro hwb hk1'))))
  have hb1' : W0.heap.size ≤ b := hb1
  have hb2' : W0.heap.size ≤ mb := hb2
  clear hs hu hwa hwb hk1 hk1' hb1 hb2
  refine hK.out _ _ (by exact hS1) ?_; clear hK; clear K
  (try simp only [Act.put, List.setIfInBounds_toArray, List.set_cons_zero, List.set_cons_succ])
  refine seq_do (fun K hK => ?_)
  go_simp
  refine (refnew w1 app b1 b2 ta tn tc).mono ?_
  rintro e w2 ⟨rb, rcs, rfl, hr, hrb, hk2⟩
  have H2 := Lib.hid (And.intro hr hk2)
  clear hr hk2
  refine hK.out _ _ ?_; clear hK; clear K
  (try simp only [Act.put, List.setIfInBounds_toArray, List.set_cons_zero, List.set_cons_succ])
  (refine seq_pure (v := ?_) (by rfl) ?_ ?_; rotate_left; focus (intro wq; first | (go_simp; done) | (go_simp; with_reducible rfl))); (try simp only [Act.put, List.setIfInBounds_toArray, List.set_cons_zero, List.set_cons_succ])
  (refine seq_pure (v := ?_) (by rfl) ?_ ?_; rotate_left; focus (intro wq; first | (go_simp; done) | (go_simp; with_reducible rfl))); (try simp only [Act.put, List.setIfInBounds_toArray, List.set_cons_zero, List.set_cons_succ])
  refine seq_nil ?_
  clear hS hS1
  have hqW : qb < W0.heap.size := lt_of_heap H0.out.1
  have hk02 : Keeps [] w w2 := (H0.out.2.1.trans H1.out.2.2.2.2 (by simp)).trans H2.out.2 (by simp)
  have hpl : PlayAt w2 qb b mb wa wb rb cs rcs (fun _ _ => 0) (udpApp app) false false (41 * ((0 : Nat) : Int)) := by
    have hz := H1.out.2.2.2.2.size
    have hz2 := H2.out.2.size
    exact ⟨H1.out.1.keep (S := []) H2.out.2 (by simp), H1.out.2.1, H2.out.2.heap H1.out.2.2.1 (by simp), H2.out.2.heap H1.out.2.2.2.1 (by simp), H2.out.1, fun _ _ => ⟨Int.le_refl _, Int.le_refl _⟩, (H0.out.2.2.2.1.keep H1.out.2.2.2.2 (by simp)).keep H2.out.2 (by simp), by omega⟩
  have hw1s := H1.out.2.2.2.2.size
  have HPL := Lib.hid (And.intro hpl hk02)
  have HB := Lib.hid (show qb ≤ b ∧ qb ≤ mb ∧ qb ≤ rb by omega)
  clear hpl hk02 H1 H2
  go_wp2_with fail
  go_loopw [9] (fun iv wr => ∃ (k : Nat) (cs rcs : Array Value) (f : Int → Int → Int) (e1 e2 : Bool), k ≤ ln ∧ iv = .int .i64 (k : Int) ∧ PlayAt wr qb b mb wa wb rb cs rcs f (udpApp app) e1 e2 (41 * (k : Int)) ∧ Keeps [] w wr) (fun iv _ => ln - (intOf iv).toNat)
  case atStart => exact ⟨0, cs, rcs, _, false, false, Nat.zero_le _, rfl, HPL.out.1, HPL.out.2⟩
  case round =>
    obtain ⟨k, cs, rcs, f, e1, e2, hk, rfl, hpl, hkw⟩ := hrel
    have HI := Lib.hid hpl
    have HK := Lib.hid hkw
    by_cases hlt : k < ln
    · obtain ⟨g, o, rfl, c0, c1, c2, c3, c4⟩ := HC.out k hlt
      have hgl : g < w.heap.size := World.block_lt_of_cell? w _ c0
      have hsz := HP.out.2.2.1 k hlt
      have HG := Lib.hid (show g < qb by omega)
      have hS : (fun wx : World => wx.cell? ⟨g, o + k * 5, none⟩ = some (.int .i64 (cl k).k) ∧ wx.cell? ⟨g, o + k * 5 + 1, none⟩ = some (.int .i64 (cl k).a) ∧ wx.cell? ⟨g, o + k * 5 + 2, none⟩ = some (.int .i64 (cl k).d) ∧ wx.cell? ⟨g, o + k * 5 + 3, none⟩ = some (.int .i64 (cl k).n) ∧ wx.cell? ⟨g, o + k * 5 + 4, none⟩ = some (.string (cl k).s)) wr.drew := ⟨hkw.cell (w' := wr) c0 (by simp), hkw.cell (w' := wr) c1 (by simp), hkw.cell (w' := wr) c2 (by simp), hkw.cell (w' := wr) c3 (by simp), hkw.cell (w' := wr) c4 (by simp)⟩
      have hlt' : (k : Int) < (ln : Int) := by omega
      have HLT := Lib.hid hlt
      clear c0 c1 c2 c3 c4 hpl hkw hgl hlt
      go_upto_region 5 with fail
      refine wp_region_seq (fun wx : World => wx.cell? ⟨g, o + k * 5, none⟩ = some (.int .i64 (cl k).k) ∧ wx.cell? ⟨g, o + k * 5 + 1, none⟩ = some (.int .i64 (cl k).a) ∧ wx.cell? ⟨g, o + k * 5 + 2, none⟩ = some (.int .i64 (cl k).d) ∧ wx.cell? ⟨g, o + k * 5 + 3, none⟩ = some (.int .i64 (cl k).n) ∧ wx.cell? ⟨g, o + k * 5 + 4, none⟩ = some (.string (cl k).s))
        [(0, 0), (1, 0), (2, 0), (3, 0), (4, 1), (6, 0), (7, 0), (8, 0), (9, 0), (10, 1), (5, 2), (11, 3), (12, 3), (13, 0), (14, 0), (15, 0), (17, 0), (16, 3), (18, 3), (19, 0), (20, 0), (21, 0), (22, 0), (24, 0), (23, 3), (25, 3), (26, 0), (27, 0)]
        [[11, 5, 4], [11, 10], [12, 5, 4], [12, 11, 10], [16, 14, 12, 5, 4], [16, 14, 12, 11, 10], [18, 14, 12, 5, 4], [18, 14, 12, 11, 10], [23, 21, 20, 14, 12, 5, 4], [23, 21, 20, 14, 12, 11, 10], [25, 21, 20, 14, 12, 5, 4], [25, 21, 20, 14, 12, 11, 10]] (by kernel_rfl) (by kernel_rfl) (fun d _ _ _ _ h => by cases d <;> exact h) ?_
      simp only [picks, List.getD_cons_succ, List.getD_cons_zero]
      (refine seq_pure (v := ?_) (by rfl) ?_ ?_; rotate_left; focus (intro wq; first | (go_simp; done) | (go_simp; with_reducible rfl))); (try simp only [Act.put, List.setIfInBounds_toArray, List.set_cons_zero, List.set_cons_succ])
      (refine seq_pure (v := ?_) (by rfl) ?_ ?_; rotate_left; focus (intro wq; first | (go_simp; done) | (go_simp; with_reducible rfl))); (try simp only [Act.put, List.setIfInBounds_toArray, List.set_cons_zero, List.set_cons_succ])
      (refine seq_pure (v := ?_) (by rfl) ?_ ?_; rotate_left; focus (intro wq; first | (go_simp; done) | (go_simp; with_reducible rfl))); (try simp only [Act.put, List.setIfInBounds_toArray, List.set_cons_zero, List.set_cons_succ])
      (refine seq_pure (v := ?_) (by rfl) ?_ ?_; rotate_left; focus (intro wq; first | (go_simp; done) | (go_simp; with_reducible rfl))); (try simp only [Act.put, List.setIfInBounds_toArray, List.set_cons_zero, List.set_cons_succ])
      (refine seq_read (v := ?_) hS (by rfl) ?_ ?_; rotate_left; focus (intro wq hSq; obtain ⟨hq1, hq2, hq3, hq4, hq5⟩ := hSq; first | (go_simp; done) | (go_simp; with_reducible rfl))); (try simp only [Act.put, List.setIfInBounds_toArray, List.set_cons_zero, List.set_cons_succ])
      (refine seq_pure (v := ?_) (by rfl) ?_ ?_; rotate_left; focus (intro wq; first | (go_simp; done) | (go_simp; with_reducible rfl))); (try simp only [Act.put, List.setIfInBounds_toArray, List.set_cons_zero, List.set_cons_succ])
      (refine seq_pure (v := ?_) (by rfl) ?_ ?_; rotate_left; focus (intro wq; first | (go_simp; done) | (go_simp; with_reducible rfl))); (try simp only [Act.put, List.setIfInBounds_toArray, List.set_cons_zero, List.set_cons_succ])
      (refine seq_pure (v := ?_) (by rfl) ?_ ?_; rotate_left; focus (intro wq; first | (go_simp; done) | (go_simp; with_reducible rfl))); (try simp only [Act.put, List.setIfInBounds_toArray, List.set_cons_zero, List.set_cons_succ])
      (refine seq_pure (v := ?_) (by rfl) ?_ ?_; rotate_left; focus (intro wq; first | (go_simp; done) | (go_simp; with_reducible rfl))); (try simp only [Act.put, List.setIfInBounds_toArray, List.set_cons_zero, List.set_cons_succ])
      (refine seq_read (v := ?_) hS (by rfl) ?_ ?_; rotate_left; focus (intro wq hSq; obtain ⟨hq1, hq2, hq3, hq4, hq5⟩ := hSq; first | (go_simp; done) | (go_simp; with_reducible rfl))); (try simp only [Act.put, List.setIfInBounds_toArray, List.set_cons_zero, List.set_cons_succ])
      refine seq_act (fun K hK => ?_)
      go_simp
      refine (one_udp wr.drew b mb wa wb cs f _ _ _ _ (udpApp app) _ e1 e2 (41 * k) qb (HI.out.sess.keep (S := []) (Keeps.refl _ _).drew (by simp)) HI.out.ucs HI.out.cnt (by omega) (by omega) (HI.out.tab.keep (Keeps.refl [] _).drew (by simp)) (by simp [foot]; exact ⟨HB.out.1, HB.out.2.1⟩) HI.out.size).mono ?_
      rintro e w1 ⟨v1, cs1, rfl, hs1, hu1, ho1, hv1, hk1⟩
      obtain ⟨x1, y1, rfl⟩ := own_slice ho1
      have hgb : g ∉ [b, mb] := by have h1 := HG.out; have h2 := HB.out; simp; omega
      have hS1 := And.intro (hk1.cell hS.1 hgb) (And.intro (hk1.cell hS.2.1 hgb) (And.intro (hk1.cell hS.2.2.1 hgb) (And.intro (hk1.cell hS.2.2.2.1 hgb) (hk1.cell hS.2.2.2.2 hgb))))
      have hk1' : Keeps [b, mb] wr w1 := (Keeps.refl _ _).drew.trans hk1 (fun _ h _ => h)
      have hv1' : ∀ q, (Value.slice x1 (uEv (udpApp app) e1 e2 (cl k).k (cl k).d (cl k).s).length y1).ownBlock = some q → wr.heap.size ≤ q := hv1
      have H1 := Lib.hid (And.intro hs1 (And.intro hu1 (And.intro ho1 (And.intro hv1' hk1'))))
      clear hs1 hu1 ho1 hv1 hv1' hk1 hk1' hgb
      refine hK.out _ _ (by exact hS1) ?_; clear hK; clear K
      (try simp only [Act.put, List.setIfInBounds_toArray, List.set_cons_zero, List.set_cons_succ])
      refine seq_do (fun K hK => ?_)
      go_simp
      have hrne : rb ∉ [b, mb] := by have h1 := HI.out.ne; simp; omega
      refine (refplain w1 rb rcs f _ _ _ _ (udpApp app) _ e1 e2 (41 * k) (HI.out.ref.keep H1.out.2.2.2.2 hrne) HI.out.cnt (by omega) (by omega)).mono ?_
      rintro e w2 ⟨v2, rcs2, rfl, hr2, ho2, hk2⟩
      obtain ⟨x2, y2, rfl⟩ := own_slice ho2
      have hrl := HI.out.reflt
      have ho12 := hk2.own H1.out.2.2.1 (fun q hq => by have h1 := H1.out.2.2.2.1 q hq; simp; omega)
      have hs2 := H1.out.1.keep hk2 (by have h1 := HI.out.ne; simp [foot]; omega)
      have H2 := Lib.hid (And.intro hr2 (And.intro ho2 (And.intro ho12 (And.intro hs2 hk2))))
      clear hr2 ho2 hk2 ho12 hs2 hrne
      refine hK.out _ _ ?_; clear hK; clear K
      (try simp only [Act.put, List.setIfInBounds_toArray, List.set_cons_zero, List.set_cons_succ])
      refine seq_do (fun K hK => ?_)
      go_simp
      refine (same_eq w2 _ _ (evB f (uEv (udpApp app) e1 e2 (cl k).k (cl k).d (cl k).s)) (by rw [evB_length]; exact H2.out.2.2.1) (by rw [evB_length]; exact ownsRow_base0 H2.out.2.1) (by rw [evB_length]; have := uEv_len (udpApp app) e1 e2 (cl k).k (cl k).d (cl k).s; omega)).mono ?_
      rintro e w3 ⟨rfl, hk3⟩
      have H3 := Lib.hid hk3
      clear hk3
      refine hK.out _ _ ?_; clear hK; clear K
      (try simp only [Act.put, List.setIfInBounds_toArray, List.set_cons_zero, List.set_cons_succ])
      (refine seq_pure (v := ?_) (by rfl) ?_ ?_; rotate_left; focus (intro wq; first | (go_simp; done) | (go_simp; with_reducible rfl))); (try simp only [Act.put, List.setIfInBounds_toArray, List.set_cons_zero, List.set_cons_succ])
      (refine seq_pure (v := ?_) (by rfl) ?_ ?_; rotate_left; focus (intro wq; first | (go_simp; done) | (go_simp; with_reducible rfl))); (try simp only [Act.put, List.setIfInBounds_toArray, List.set_cons_zero, List.set_cons_succ])
      (refine seq_pure (v := ?_) (by rfl) ?_ ?_; rotate_left; focus (intro wq; first | (go_simp; done) | (go_simp; with_reducible rfl))); (try simp only [Act.put, List.setIfInBounds_toArray, List.set_cons_zero, List.set_cons_succ])
      (refine seq_pure (v := ?_) (by rfl) ?_ ?_; rotate_left; focus (intro wq; first | (go_simp; done) | (go_simp; with_reducible rfl))); (try simp only [Act.put, List.setIfInBounds_toArray, List.set_cons_zero, List.set_cons_succ])
      refine seq_do (fun K hK => ?_)
      go_simp
      refine (app_sess w3 b mb none _ _ [] _ (H2.out.2.2.2.1.keep (S := []) H3.out (by simp)) H1.out.2.1.a).mono ?_
      rintro e w4 ⟨rfl, rfl⟩
      refine hK.out _ _ ?_; clear hK; clear K
      (try simp only [Act.put, List.setIfInBounds_toArray, List.set_cons_zero, List.set_cons_succ])
      refine seq_do (fun K hK => ?_)
      go_simp
      refine (refapp w3 rb _ _ _ _ _ (H2.out.1.keep (S := []) H3.out (by simp))).mono ?_
      rintro e w4 ⟨rfl, rfl⟩
      refine hK.out _ _ ?_; clear hK; clear K
      (try simp only [Act.put, List.setIfInBounds_toArray, List.set_cons_zero, List.set_cons_succ])
      (refine seq_pure (v := ?_) (by rfl) ?_ ?_; rotate_left; focus (intro wq; first | (go_simp; done) | (go_simp; with_reducible rfl))); (try simp only [Act.put, List.setIfInBounds_toArray, List.set_cons_zero, List.set_cons_succ])
      (refine seq_pure (v := ?_) (by rfl) ?_ ?_; rotate_left; focus (intro wq; first | (go_simp; done) | (go_simp; with_reducible rfl))); (try simp only [Act.put, List.setIfInBounds_toArray, List.set_cons_zero, List.set_cons_succ])
      (refine seq_pure (v := ?_) (by rfl) ?_ ?_; rotate_left; focus (intro wq; first | (go_simp; done) | (go_simp; with_reducible rfl))); (try simp only [Act.put, List.setIfInBounds_toArray, List.set_cons_zero, List.set_cons_succ])
      (refine seq_pure (v := ?_) (by rfl) ?_ ?_; rotate_left; focus (intro wq; first | (go_simp; done) | (go_simp; with_reducible rfl))); (try simp only [Act.put, List.setIfInBounds_toArray, List.set_cons_zero, List.set_cons_succ])
      (refine seq_pure (v := ?_) (by rfl) ?_ ?_; rotate_left; focus (intro wq; first | (go_simp; done) | (go_simp; with_reducible rfl))); (try simp only [Act.put, List.setIfInBounds_toArray, List.set_cons_zero, List.set_cons_succ])
      refine seq_do (fun K hK => ?_)
      go_simp
      have hw1 : ∀ q, q = wa ∨ q = wb → q ∉ [b, mb] ∧ q ≠ rb := fun q hq => by have h1 := HI.out.ne; simp; omega
      have hk14 : Keeps [b, mb, rb] wr w3 := ((H1.out.2.2.2.2.mono (T := [b, mb, rb]) (by simp)).trans (H2.out.2.2.2.2.mono (T := [b, mb, rb]) (by simp)) (fun _ h _ => h)).trans H3.out (by simp)
      have hwa3 := hk14.heap HI.out.wa (by have h1 := hw1 wa (.inl rfl); simp at h1 ⊢; omega)
      have hwb3 := hk14.heap HI.out.wb (by have h1 := hw1 wb (.inr rfl); simp at h1 ⊢; omega)
      refine (size_udp w3 b mb wa wb none _ _ [] _ _ _ 1 2 (H2.out.2.2.2.1.keep (S := []) H3.out (by simp)) H1.out.2.1 hwa3 hwb3).mono ?_
      rintro e w4 ⟨rfl, hk4⟩
      have H4 := Lib.hid (And.intro hk4 (And.intro hwa3 (And.intro hwb3 hk14)))
      clear hk4 hwa3 hwb3 hk14 hw1
      refine hK.out _ _ ?_; clear hK; clear K
      (try simp only [Act.put, List.setIfInBounds_toArray, List.set_cons_zero, List.set_cons_succ])
      refine seq_do (fun K hK => ?_)
      go_simp
      refine (refsize w4 rb _ _ _ _ _ ((H2.out.1.keep (S := []) H3.out (by simp)).keep (S := []) H4.out.1 (by simp))).mono ?_
      rintro e w5 ⟨rfl, hk5⟩
      have H5 := Lib.hid hk5
      clear hk5
      refine hK.out _ _ ?_; clear hK; clear K
      (try simp only [Act.put, List.setIfInBounds_toArray, List.set_cons_zero, List.set_cons_succ])
      (refine seq_pure (v := ?_) (by rfl) ?_ ?_; rotate_left; focus (intro wq; first | (go_simp; done) | (go_simp; with_reducible rfl))); (try simp only [Act.put, List.setIfInBounds_toArray, List.set_cons_zero, List.set_cons_succ])
      (refine seq_pure (v := ?_) (by rfl) ?_ ?_; rotate_left; focus (intro wq; first | (go_simp; done) | (go_simp; with_reducible rfl))); (try simp only [Act.put, List.setIfInBounds_toArray, List.set_cons_zero, List.set_cons_succ])
      refine seq_nil ?_
      clear hS hS1
      have hlen := uEv_len (udpApp app) e1 e2 (cl k).k (cl k).d (cl k).s
      have hnew : PlayAt w5 qb b mb wa wb rb cs1 rcs2 (evF f (uEv (udpApp app) e1 e2 (cl k).k (cl k).d (cl k).s)) (udpApp app) (uEnd e1 e2 (cl k).k (cl k).d).1 (uEnd e1 e2 (cl k).k (cl k).d).2 (41 * ((k + 1 : Nat) : Int)) := by
        have k45 : Keeps [] w3 w5 := H4.out.1.trans H5.out (by simp)
        have k35 : Keeps [] w2 w5 := H3.out.trans k45 (by simp)
        refine ⟨H2.out.2.2.2.1.keep (S := []) k35 (by simp), H1.out.2.1, k45.heap H4.out.2.1 (by simp), k45.heap H4.out.2.2.1 (by simp), H2.out.1.keep (S := []) k35 (by simp), fun x y => ?_, (HI.out.tab.keep H4.out.2.2.2 ?_).keep k45 (by simp), Nat.le_trans HI.out.size (Nat.le_trans H4.out.2.2.2.size k45.size)⟩
        · have h9 := HI.out.cnt.ev (uEv (udpApp app) e1 e2 (cl k).k (cl k).d (cl k).s) x y
          omega
        · have h1 := HB.out; simp; omega
      have hkn : Keeps [] w w5 := by
        have hb := HB.out
        have hww : w.heap.size = qb := hqb
        exact (HK.out.trans H4.out.2.2.2 (fun x hx hl => by exfalso; simp only [List.mem_cons, List.not_mem_nil, or_false] at hx; omega)).trans (H4.out.1.trans H5.out (by simp)) (by simp)
      have HNW := Lib.hid (And.intro hnew hkn)
      clear hnew hkn
      go_wp2_with fail
      go_roundw
      case rel => exact ⟨k + 1, _, _, _, _, _, HLT.out, by go_num, HNW.out.1, HNW.out.2⟩
      case measure => have := HLT.out; simp [intOf]; omega
    · have hlt' : ¬ (k : Int) < (ln : Int) := by omega
      clear hpl hkw
      go_wp2_with fail
      go_ret
      exact ⟨rfl, HK.out⟩
end Go.Proofs.Sess
/- SessionDatagrams: the law. -/
namespace Go.Proofs.Sess
open Go Go.RowKit

set_option maxRecDepth 100000 in
set_option maxHeartbeats 4000000 in
theorem datagrams_law (w : World) (app b1 b2 : Int) (ta la : Option Addr) (tn tc ln lc : Nat) (nns : Nat → Nat) (cl : Nat → CallW) (ht : TrustIn w ta tn nns) (hc : CallsAt w la ln cl) (htab : TabIn w.heap.size w) :
    Calls Tryz.prog 4 #[.agg #[.int .i64 app, .slice ta tn tc, .int .i64 b1, .int .i64 b2], .slice la ln lc] w fun e w' => e = .returned (.bool true) ∧ Keeps [] w w' := by
  have hk0 : Keeps [] w (w.alloc (.cells #[.int .i64 app, .slice ta tn tc, .int .i64 b1, .int .i64 b2] 26)) := (Keeps.refl _ _).alloc _
  have hh0 : (w.alloc (.cells #[.int .i64 app, .slice ta tn tc, .int .i64 b1, .int .i64 b2] 26)).heap[w.heap.size]? = some (.cells #[.int .i64 app, .slice ta tn tc, .int .i64 b1, .int .i64 b2] 26 (0, 0)) := heap_alloc_self
  have H0 := Lib.hid (And.intro hh0 (And.intro hk0 (And.intro ht (And.intro hc htab))))
  clear ht hc htab hk0 hh0
  go_enter Tryz.func4, Tryz.ntmps4
  go_upto_region 1 with fail
  revert H0
  generalize w.alloc (.cells #[.int .i64 app, .slice ta tn tc, .int .i64 b1, .int .i64 b2] 26) = W0
  intro H0
  generalize hqb : w.heap.size = qb at *
  go_upto_region 3 with (go_at_call 10; refine (awake_true W0).mono ?_; rintro e w1 ⟨rfl, hk1⟩; have H1 := Lib.hid (And.intro (hk1.heap H0.out.1 (by simp)) (H0.out.2.1.trans hk1 (by simp))); clear hk1)
  have c0 : w1.cell? ⟨qb, 0, none⟩ = some (.int .i64 app) := cell_of_heap H1.out.1 rfl
  have c1 : w1.cell? ⟨qb, 1, none⟩ = some (.slice ta tn tc) := cell_of_heap H1.out.1 rfl
  have c2 : w1.cell? ⟨qb, 2, none⟩ = some (.int .i64 b1) := cell_of_heap H1.out.1 rfl
  have c3 : w1.cell? ⟨qb, 3, none⟩ = some (.int .i64 b2) := cell_of_heap H1.out.1 rfl
  go_wp2_with fail
  refine (few_any w1 app b1 b2 ta la tn tc ln lc nns cl (H0.out.2.2.1.keep H1.out.2) (H0.out.2.2.2.1.keep H1.out.2 (by simp))).mono ?_
  rintro e w2 ⟨r, rfl, hk2, hf⟩
  have H2 := Lib.hid (And.intro hk2 (And.intro (hk2.heap H1.out.1 (by simp)) hf))
  have d0 : w2.cell? ⟨qb, 0, none⟩ = some (.int .i64 app) := cell_of_heap H2.out.2.1 rfl
  have d1 : w2.cell? ⟨qb, 1, none⟩ = some (.slice ta tn tc) := cell_of_heap H2.out.2.1 rfl
  have d2 : w2.cell? ⟨qb, 2, none⟩ = some (.int .i64 b1) := cell_of_heap H2.out.2.1 rfl
  have d3 : w2.cell? ⟨qb, 3, none⟩ = some (.int .i64 b2) := cell_of_heap H2.out.2.1 rfl
  clear hk2 hf c0 c1 c2 c3
  have hkw2 : Keeps [] w w2 := H1.out.2.trans H2.out.1 (by simp)
  have hsz := hkw2.size
  have HK := Lib.hid hkw2
  clear hkw2
  cases r with
  | false =>
    go_wp2_with fail
    go_ret
    exact ⟨rfl, HK.out⟩
  | true =>
    have htb : TabIn w2.heap.size w2 := by
      obtain ⟨g, t, fr, h1, h2, h3⟩ := H0.out.2.2.2.2.keep HK.out (by simp)
      exact ⟨g, t, fr, h1, lt_of_heap h3, h3⟩
    have HT := Lib.hid htb
    clear htb
    have HPL := Lib.hid (play_udp w2 app b1 b2 ta la tn tc ln lc nns cl (H0.out.2.2.1.keep HK.out) (H0.out.2.2.2.1.keep HK.out (by simp)) (H2.out.2.2 (by simp)) HT.out)
    go_wp2_with (go_at_call 14; refine HPL.out.mono ?_; rintro e w3 ⟨rfl, hk3⟩; have H3 := Lib.hid hk3; clear hk3)
    go_ret
    exact ⟨rfl, HK.out.trans H3.out (by simp)⟩
end Go.Proofs.Sess
