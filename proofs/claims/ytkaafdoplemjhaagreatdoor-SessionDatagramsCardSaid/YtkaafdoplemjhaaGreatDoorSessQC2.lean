/- A part of the proof that a session of datagrams answers as the reference (SessionDatagrams). Its contents: contracts of functions of the program, each stated with its premises. -/
import Derived.Test.YtkaafdoplemjhaaGreatDoorSessQC0
import Derived.Test.YtkaafdoplemjhaaGreatDoorSessQC1
import Derived.Scope
namespace Go.Proofs.Sess
open Go Go.RowKit

theorem info310 : (Tryz.prog.info? 310).map (fun i => (i.zero, i.size, i.bytes)) = some (some (.agg #[.string ⟨#[]⟩, .bool false]), 2, 24) := by kernel_rfl

/-- The boxes of Feed's closure: the text, the splitter, the lines. -/
structure Boxes (W : World) (bs bp bo sb : Nat) (s : ByteArray) (o : Value) : Prop where
  s : W.heap[bs]? = some (.cells #[.string s] 9 (0, 0))
  p : W.heap[bp]? = some (.cells #[.pointer (some ⟨sb, 0, none⟩)] 172 (0, 0))
  o : W.heap[bo]? = some (.cells #[o] 183 (0, 0))

theorem Boxes.keep {W W' : World} {bs bp bo sb : Nat} {s : ByteArray} {o : Value} (h : Boxes W bs bp bo sb s o) {S : List Nat} (hk : Keeps S W W') (h1 : bs ∉ S) (h2 : bp ∉ S) (h3 : bo ∉ S) : Boxes W' bs bp bo sb s o :=
  ⟨hk.heap h.s h1, hk.heap h.p h2, hk.heap h.o h3⟩

set_option maxRecDepth 100000 in
set_option maxHeartbeats 1600000 in
/-- The closure, where no line ends. -/
theorem feedStep_no (w : World) (bs bp bo sb : Nat) (s : ByteArray) (o : Value) (hb : Boxes w bs bp bo sb s o) (hi : Lib.indexByte s.data.toList 10 = -1) :
    Calls Tryz.prog 361 #[.pointer (some ⟨bs, 0, none⟩), .pointer (some ⟨bp, 0, none⟩), .pointer (some ⟨bo, 0, none⟩)] w fun e w' => e = .returned (.bool false) ∧ w = w' := by
  have c0 : w.cell? ⟨bs, 0, none⟩ = some (.string s) := cell_of_heap hb.s rfl
  clear hb
  have hi' : Lib.indexByte s.data.toList (UInt8.ofNat (Int.toNat 10)) = -1 := hi
  go_enter Tryz.func361, Tryz.ntmps361
  go_wp2_with (go_at_call 344; refine (indexByte_any s 10 _).mono ?_; rintro e w' ⟨rfl, rfl⟩; rw [show (10 : Int).toNat.toUInt8 = 10 from rfl, hi])
  go_ret
  exact ⟨rfl, rfl⟩

/-- What the closure leaves behind a line. -/
def Stepped (w : World) (bs bp bo sb : Nat) (ob : Option Nat) (s : ByteArray) (i m : Nat) (xs : ByteArray) (e : Ending) (w' : World) : Prop :=
  e = .returned (.bool true) ∧ ∃ ob' g c, SplitAt w' sb ob' 0 false ⟨#[]⟩ ∧ Boxes w' bs bp bo sb (s.extract (i + 1) s.size) (.slice (some ⟨g, 0, none⟩) 1 c) ∧ w'.ownsRow 0 310 2 (.slice (some ⟨g, 0, none⟩) 1 c) 1 [.string ((keptS xs (s.extract 0 i)).extract 0 m), .bool false] ∧
    w.heap.size ≤ g ∧ Keeps ([bs, bo] ++ footS sb ob) w w' ∧ (∀ k ∈ footS sb ob', k ∈ footS sb ob ∨ w.heap.size ≤ k) ∧ some g ≠ ob'

set_option maxRecDepth 100000 in
set_option maxHeartbeats 8000000 in
/-- The closure, where a line ends. -/
theorem feedStep_yes (w : World) (bs bp bo sb : Nat) (ob : Option Nat) (n i m : Nat) (ends : Bool) (s xs : ByteArray) (hb : Boxes w bs bp bo sb s (.slice none 0 0)) (hsp : SplitAt w sb ob n ends xs) (hi : Lib.indexByte s.data.toList 10 = (i : Int)) (his : i < s.size) (hi0 : i ≠ 0) (hsz : n + s.size < 1000000) (hx : xs.size < 513)
    (hm : (if byt (s.extract 0 i) ((s.extract 0 i).size - 1) == 13 then ((n + i : Nat) : Int) - 1 else ((n + i : Nat) : Int)) = (m : Int)) (hm5 : m ≤ 512) (hmx : m ≤ (keptS xs (s.extract 0 i)).size) (hk0 : (keptS xs (s.extract 0 i)).size ≠ 0)
    (hbs : bs ∉ footS sb ob) (hbp : bp ∉ footS sb ob) (hbo : bo ∉ footS sb ob) (hne1 : bs ≠ bo) (hne2 : bp ≠ bo) (hne3 : bs ≠ bp) :
    Calls Tryz.prog 361 #[.pointer (some ⟨bs, 0, none⟩), .pointer (some ⟨bp, 0, none⟩), .pointer (some ⟨bo, 0, none⟩)] w (Stepped w bs bp bo sb ob s i m xs) := by
  obtain ⟨i0, hi0', hz0, hz1, hz2⟩ := info_parts info310
  have hez : (s.extract 0 i).size = i := by simp; omega
  have hS : (fun wx : World => wx.cell? ⟨bs, 0, none⟩ = some (.string s) ∧ wx.cell? ⟨bp, 0, none⟩ = some (.pointer (some ⟨sb, 0, none⟩))) w.drew := ⟨cell_of_heap (w := w) hb.s rfl, cell_of_heap (w := w) hb.p rfl⟩
  have c0 : w.cell? ⟨bs, 0, none⟩ = some (.string s) := cell_of_heap hb.s rfl
  have hii : (0 : Int) ≤ (i : Int) := by omega
  have hil : (i : Int) ≤ (s.size : Int) := by omega
  have hil2 : i ≤ s.size := by omega
  have HL := Lib.hid (linesAppend_room w.drew sb ob n ends xs (s.extract 0 i) (hsp.keep (S := []) (Keeps.refl _ _).drew (by simp)) (by omega) hx (by omega))
  have HB := Lib.hid hb
  have HSP := Lib.hid hsp
  clear hb hsp
  go_enter Tryz.func361, Tryz.ntmps361
  go_upto_region 4 with (go_at_call 344; refine (indexByte_any s 10 _).mono ?_; rintro e w' ⟨rfl, rfl⟩; rw [show (10 : Int).toNat.toUInt8 = 10 from rfl, hi])
  refine wp_region_seq (fun wx : World => wx.cell? ⟨bs, 0, none⟩ = some (.string s) ∧ wx.cell? ⟨bp, 0, none⟩ = some (.pointer (some ⟨sb, 0, none⟩)))
    [(0, 1), (1, 1), (2, 0), (3, 0), (4, 3)]
    [[4, 0], [4, 3, 1]] (by kernel_rfl) (by kernel_rfl) (fun d _ _ _ _ h => by cases d <;> exact h) ?_
  simp only [picks, List.getD_cons_succ, List.getD_cons_zero]
  (refine seq_read (v := ?_) hS (by rfl) ?_ ?_; rotate_left; focus (intro wq hSq; obtain ⟨hq1, hq2⟩ := hSq; first | (go_simp; done) | (go_simp; with_reducible rfl))); (try simp only [Act.put, List.setIfInBounds_toArray, List.set_cons_zero, List.set_cons_succ])
  (refine seq_read (v := ?_) hS (by rfl) ?_ ?_; rotate_left; focus (intro wq hSq; obtain ⟨hq1, hq2⟩ := hSq; first | (go_simp; done) | (go_simp; with_reducible rfl))); (try simp only [Act.put, List.setIfInBounds_toArray, List.set_cons_zero, List.set_cons_succ])
  (refine seq_pure (v := ?_) (by rfl) ?_ ?_; rotate_left; focus (intro wq; first | (go_simp; done) | (go_simp; with_reducible rfl))); (try simp only [Act.put, List.setIfInBounds_toArray, List.set_cons_zero, List.set_cons_succ])
  (refine seq_pure (v := ?_) (by rfl) ?_ ?_; rotate_left; focus (intro wq; first | (go_simp; done) | (go_simp; with_reducible rfl))); (try simp only [Act.put, List.setIfInBounds_toArray, List.set_cons_zero, List.set_cons_succ])
  refine seq_do (fun K hK => ?_)
  go_simp
  refine HL.out.mono ?_
  rintro e w2 ⟨rfl, ob2, hs2, hm2⟩
  have H2 := Lib.hid (And.intro hs2 hm2)
  clear hs2 hm2
  refine hK.out _ _ ?_; clear hK; clear K
  (try simp only [Act.put, List.setIfInBounds_toArray, List.set_cons_zero, List.set_cons_succ])
  refine seq_nil ?_
  clear hS
  go_upto_region 5 with fail
  have hb2 : Boxes w2 bs bp bo sb s (.slice none 0 0) := (HB.out.keep (S := []) (Keeps.refl _ _).drew (by simp) (by simp) (by simp)).keep H2.out.2.keeps hbs hbp hbo
  have hs2d : SplitAt w2.drew sb ob2 (n + (s.extract 0 i).size) (byt (s.extract 0 i) ((s.extract 0 i).size - 1) == 13) (keptS xs (s.extract 0 i)) := H2.out.1.keep (S := []) (Keeps.refl _ _).drew (by simp)
  have hS : (fun wx : World => wx.cell? ⟨bo, 0, none⟩ = some (.slice none 0 0) ∧ wx.cell? ⟨bp, 0, none⟩ = some (.pointer (some ⟨sb, 0, none⟩))) w2.drew := ⟨cell_of_heap (w := w2) hb2.o rfl, cell_of_heap (w := w2) hb2.p rfl⟩
  have hlen := linesLength w2.drew sb ob2 _ _ _ hs2d (by omega)
  rw [hez] at hlen
  have hm' : (if (byt (s.extract 0 i) (i - 1) == 13) = true then ((n + i : Nat) : Int) - 1 else ((n + i : Nat) : Int)) = (m : Int) := by rw [hez] at hm; exact hm
  rw [hm'] at hlen
  have hline := linesLine w2.drew sb ob2 _ m _ _ hs2d hm5 hmx hk0
  have hfar : ∀ k, k < w.heap.size → k ∉ footS sb ob → k ∉ footS sb ob2 := fun k hk h => H2.out.2.not_mem hk h
  have hbs2 : bs ∉ footS sb ob2 := hfar bs (lt_of_heap HB.out.s) hbs
  have hbp2 : bp ∉ footS sb ob2 := hfar bp (lt_of_heap HB.out.p) hbp
  have hbo2 : bo ∉ footS sb ob2 := hfar bo (lt_of_heap HB.out.o) hbo
  have HQ := Lib.hid (And.intro hb2 (And.intro hlen hline))
  clear hb2 hlen hline hs2d hm' hfar hi hm
  refine wp_region_seq (fun wx : World => wx.cell? ⟨bo, 0, none⟩ = some (.slice none 0 0) ∧ wx.cell? ⟨bp, 0, none⟩ = some (.pointer (some ⟨sb, 0, none⟩)))
    [(0, 1), (1, 1), (2, 1), (3, 2), (4, 2), (5, 2), (6, 3), (7, 3)]
    [[6, 0], [6, 4, 1], [6, 4, 3, 2], [7, 0], [7, 1], [7, 2]] (by kernel_rfl) (by kernel_rfl) (fun d _ _ _ _ h => by cases d <;> exact h) ?_
  simp only [picks, List.getD_cons_succ, List.getD_cons_zero]
  (refine seq_read (v := ?_) hS (by rfl) ?_ ?_; rotate_left; focus (intro wq hSq; obtain ⟨hq1, hq2⟩ := hSq; first | (go_simp; done) | (go_simp; with_reducible rfl))); (try simp only [Act.put, List.setIfInBounds_toArray, List.set_cons_zero, List.set_cons_succ])
  (refine seq_read (v := ?_) hS (by rfl) ?_ ?_; rotate_left; focus (intro wq hSq; obtain ⟨hq1, hq2⟩ := hSq; first | (go_simp; done) | (go_simp; with_reducible rfl))); (try simp only [Act.put, List.setIfInBounds_toArray, List.set_cons_zero, List.set_cons_succ])
  (refine seq_read (v := ?_) hS (by rfl) ?_ ?_; rotate_left; focus (intro wq hSq; obtain ⟨hq1, hq2⟩ := hSq; first | (go_simp; done) | (go_simp; with_reducible rfl))); (try simp only [Act.put, List.setIfInBounds_toArray, List.set_cons_zero, List.set_cons_succ])
  refine seq_act (fun K hK => ?_)
  go_simp
  refine HQ.out.2.1.mono ?_
  rintro e w3 ⟨rfl, rfl⟩
  refine hK.out _ _ (by exact hS) ?_; clear hK; clear K
  (try simp only [Act.put, List.setIfInBounds_toArray, List.set_cons_zero, List.set_cons_succ])
  refine seq_act (fun K hK => ?_)
  go_simp
  refine HQ.out.2.2.mono ?_
  rintro e w3 ⟨rfl, hs3, hk3⟩
  have hb3 : Boxes w3 bs bp bo sb s (.slice none 0 0) := (HQ.out.1.keep (S := []) (Keeps.refl _ _).drew (by simp) (by simp) (by simp)).keep hk3 (by intro h; exact hbs2 (by simp at h; simp [footS, h])) (by intro h; exact hbp2 (by simp at h; simp [footS, h])) (by intro h; exact hbo2 (by simp at h; simp [footS, h]))
  have H3 := Lib.hid (And.intro hs3 (And.intro hk3 hb3))
  clear hs3 hk3 hb3
  refine hK.out _ _ (by exact ⟨cell_of_heap H3.out.2.2.o rfl, cell_of_heap H3.out.2.2.p rfl⟩) ?_; clear hK; clear K
  (try simp only [Act.put, List.setIfInBounds_toArray, List.set_cons_zero, List.set_cons_succ])
  refine seq_act (fun K hK => ?_)
  go_simp
  refine hK.out _ _ (by exact ⟨cell_of_heap ((heap_alloc_far (lt_of_heap H3.out.2.2.o)).trans H3.out.2.2.o) rfl, cell_of_heap ((heap_alloc_far (lt_of_heap H3.out.2.2.p)).trans H3.out.2.2.p) rfl⟩) ?_; clear hK; clear K
  (try simp only [Act.put, List.setIfInBounds_toArray, List.set_cons_zero, List.set_cons_succ])
  refine seq_do (fun K hK => ?_)
  refine step_append_lies _ (by rfl) _ _ _ (by rfl) w3.heap.size 310 i0 _ 2 24 Tryz.underlying183 hi0' hz0 hz1 hz2 rfl (by omega) (.slice none 0 0) 0 [] (by rfl) (World.ownsRow_nil _ _ _ _) ⟨w3.heap.size, 0, none⟩ 1 1 [.string ((keptS xs (s.extract 0 i)).extract 0 m), .bool false] (by rfl) (by rfl) (World.news_of_block heap_alloc_self) (by simp [Value.oneCell']) (by omega) (by unfold maxLen; omega) (by omega) (by simp) (w3.heap.size + 1) (by simp) ?_
  intro gg cap w4 hown hgrow hat hlt
  have hgg : gg = w3.heap.size + 1 := by simp [Value.ownBlock] at hat; omega
  have hb4 : Boxes w4 bs bp bo sb s (.slice none 0 0) := H3.out.2.2.keep (S := []) (((Keeps.refl _ _).alloc _).grown hgrow (by simp [Value.ownBlock])) (by simp) (by simp) (by simp)
  have hs4 : SplitAt w4 sb ob2 0 false ⟨#[]⟩ := H3.out.1.keep (S := []) (((Keeps.refl _ _).alloc _).grown hgrow (by simp [Value.ownBlock])) (by simp)
  have hk4 : Keeps [] w3 w4 := (((Keeps.refl _ _).alloc _).grown hgrow (by simp [Value.ownBlock]))
  have d0 : w4.cell? ⟨bo, 0, none⟩ = some (.slice none 0 0) := cell_of_heap hb4.o rfl
  have e0 : w4.frozen? ⟨bo, 0, none⟩ = false := free_of_heap hb4.o
  have H4 := Lib.hid (And.intro hb4 (And.intro hs4 (And.intro hk4 hown)))
  clear hb4 hs4 hk4 hown hgrow hat
  refine hK.out _ _ ?_; clear hK; clear K
  (try simp only [Act.put, List.setIfInBounds_toArray, List.set_cons_zero, List.set_cons_succ])
  refine seq_do (fun K hK => ?_)
  go_simp
  refine hK.out _ _ ?_; clear hK; clear K
  (try simp only [Act.put, List.setIfInBounds_toArray, List.set_cons_zero, List.set_cons_succ])
  refine seq_nil ?_
  clear hS
  subst hgg
  obtain ⟨w5, hw5⟩ : ∃ w5, w4.setCell ⟨bo, 0, none⟩ (.slice (some ⟨w3.heap.size + 1, 0, none⟩) 1 cap) = w5 := ⟨_, rfl⟩
  rw [hw5]
  have b5s : w5.heap[bs]? = some (.cells #[.string s] 9 (0, 0)) := by rw [← hw5, heap_setCell_far hne1]; exact H4.out.1.s
  have b5p : w5.heap[bp]? = some (.cells #[.pointer (some ⟨sb, 0, none⟩)] 172 (0, 0)) := by rw [← hw5, heap_setCell_far hne2]; exact H4.out.1.p
  have b5o : w5.heap[bo]? = some (.cells #[.slice (some ⟨w3.heap.size + 1, 0, none⟩) 1 cap] 183 (0, 0)) := by rw [← hw5, heap_setCell_self H4.out.1.o]; rfl
  have k5 : Keeps [bo] w4 w5 := by rw [← hw5]; exact (Keeps.refl _ _).setCell (by simp) _
  have d5 : w5.cell? ⟨bs, 0, none⟩ = some (.string s) := cell_of_heap b5s rfl
  have e5 : w5.frozen? ⟨bs, 0, none⟩ = false := free_of_heap b5s
  have H5 := Lib.hid (And.intro b5s (And.intro b5p (And.intro b5o k5)))
  clear b5s b5p b5o k5 hw5 c0 d0 e0
  have hi1a : (0 : Int) ≤ (i : Int) + 1 := by omega
  have hi1b : (i : Int) + 1 ≤ (s.size : Int) := by omega
  go_wp2_with fail
  go_ret
  have k6 : Keeps [bs] w5 (w5.setCell ⟨bs, 0, none⟩ (.string (s.extract (i + 1) s.size))) := (Keeps.refl _ _).setCell (by simp) _
  have k46 : Keeps [bo, bs] w4 (w5.setCell ⟨bs, 0, none⟩ (.string (s.extract (i + 1) s.size))) := (H5.out.2.2.2.mono (T := [bo, bs]) (by simp)).trans k6 (by simp)
  have l3 : w.heap.size ≤ w3.heap.size := Nat.le_trans H2.out.2.keeps.size H3.out.2.1.size
  have hbsl := lt_of_heap HB.out.s
  have hbol := lt_of_heap HB.out.o
  have hob : ∀ k, ob2 = some k → k < w3.heap.size := fun k hk => by
    obtain ⟨v, _, q1, q2⟩ := H3.out.1.own
    exact (q2.lt k (by rw [q1, hk])).2
  refine ⟨rfl, ob2, w3.heap.size + 1, cap, H4.out.2.1.keep k46 ?_, ⟨?_, ?_, ?_⟩, ?_, by omega, ?_, ?_, ?_⟩
  · intro k hk hh
    simp at hh
    rcases hh with hh | hh
    · exact hbo2 (by rw [← hh]; exact hk)
    · exact hbs2 (by rw [← hh]; exact hk)
  · rw [heap_setCell_self H5.out.1]; rfl
  · rw [heap_setCell_far (Ne.symm hne3)]; exact H5.out.2.1
  · rw [heap_setCell_far (Ne.symm hne1)]; exact H5.out.2.2.1
  · have := k46.own H4.out.2.2.2 (fun k h => by simp [Value.ownBlock] at h; simp; omega)
    refine ⟨this.1, ?_⟩
    rcases this.2 with h | ⟨g', cap', cur, q1, _, q2⟩
    · exact .inl h
    · exact .inr ⟨g', cap', cur, q1, Nat.zero_le _, q2⟩
  · have ka : Keeps ([bs, bo] ++ footS sb ob) w w2 := ((Keeps.refl _ w).drew.trans H2.out.2.keeps (by simp; exact fun x hx _ => .inr (.inr hx)))
    have kb : Keeps ([bs, bo] ++ footS sb ob) w w3 := ka.drew.trans H3.out.2.1 (by simp [footS])
    have kc : Keeps ([bs, bo] ++ footS sb ob) w w4 := kb.trans H4.out.2.2.1 (by simp)
    exact kc.trans k46 (by simp)
  · intro k hk
    exact H2.out.2.grow k hk
  · intro e
    have := hob _ e.symm
    omega
end Go.Proofs.Sess
namespace Go.Proofs.Sess
open Go Go.RowKit

/-- Feed, where no line ends. -/
def FedNo (w : World) (sb : Nat) (ob : Option Nat) (n : Nat) (s xs : ByteArray) (e : Ending) (w' : World) : Prop :=
  e = .returned (.slice none 0 0) ∧ ∃ ob', SplitAt w' sb ob' (n + s.size) (byt s (s.size - 1) == 13) (keptS xs s) ∧ Mod (footS sb ob) (footS sb ob') w w'

set_option maxRecDepth 100000 in
set_option maxHeartbeats 8000000 in
theorem linesFeed_no (w : World) (sb : Nat) (ob : Option Nat) (n : Nat) (ends : Bool) (s xs : ByteArray) (h : SplitAt w sb ob n ends xs) (hi : Lib.indexByte s.data.toList 10 = -1) (hs : s.size ≠ 0) (hx : xs.size < 513) (hn : n + s.size < 1000000) :
    Calls Tryz.prog 345 #[.pointer (some ⟨sb, 0, none⟩), .string s] w (FedNo w sb ob n s xs) := by
  have hb1 : Boxes (((w.alloc (.cells #[.pointer (some ⟨sb, 0, none⟩)] 172)).alloc (.cells #[.string s] 9)).alloc (.cells #[.slice none 0 0] 183)) (w.heap.size + 1) w.heap.size (w.heap.size + 2) sb s (.slice none 0 0) := by
    refine ⟨?_, ?_, ?_⟩ <;> (simp only [alloc_get, alloc_size]; (repeat (first | rw [if_pos (by omega)] | rw [if_neg (by omega)])); rfl)
  have k1 : Keeps [] w (((w.alloc (.cells #[.pointer (some ⟨sb, 0, none⟩)] 172)).alloc (.cells #[.string s] 9)).alloc (.cells #[.slice none 0 0] 183)) := (((Keeps.refl _ _).alloc _).alloc _).alloc _
  have hsp1 := h.keep k1 (by simp)
  have hfo : ∀ k ∈ footS sb ob, k < w.heap.size := fun k hk => by
    obtain ⟨v, q0, q1, q2⟩ := h.own
    simp [footS] at hk
    rcases hk with hk | hk
    · rw [hk]; exact lt_of_heap q0
    · exact (q2.lt k (by rw [q1, hk])).2
  have H := Lib.hid (And.intro hb1 (And.intro k1 (And.intro hsp1 hfo)))
  clear h hb1 k1 hsp1 hfo
  go_enter Tryz.func345, Tryz.ntmps345
  go_wp2_with fail
  refine wp_loop_rounds 1 ?_
  rw [rounds_succ]
  go_wp2_with (go_at_call 361; refine (feedStep_no _ _ _ _ sb s _ H.out.1 hi).mono ?_; rintro e w1 ⟨rfl, rfl⟩)
  refine (linesAppend_room _ sb ob n ends xs s H.out.2.2.1 hs hx hn).mono ?_
  rintro e w2 ⟨rfl, ob2, hs2, hm2⟩
  have hbo : w.heap.size + 2 ∉ footS sb ob := fun hh => by have := H.out.2.2.2 _ hh; omega
  have hb2 := hm2.keeps.heap H.out.1.o hbo
  have d2 : w2.cell? ⟨w.heap.size + 1 + 1, 0, none⟩ = some (.slice none 0 0) := cell_of_heap hb2 rfl
  have H2 := Lib.hid (And.intro hs2 hm2)
  clear hs2 hm2 hb2
  go_wp2_with fail
  go_ret
  exact ⟨rfl, ob2, H2.out.1, Mod.keeps_then H.out.2.1 H2.out.2⟩

/-- Feed, where one line ends, the last. -/
def FedOne (w : World) (sb : Nat) (ob : Option Nat) (l : ByteArray) (e : Ending) (w' : World) : Prop :=
  ∃ g c ob', e = .returned (.slice (some ⟨g, 0, none⟩) 1 c) ∧ SplitAt w' sb ob' 0 false ⟨#[]⟩ ∧ w'.ownsRow 0 310 2 (.slice (some ⟨g, 0, none⟩) 1 c) 1 [.string l, .bool false] ∧ w.heap.size ≤ g ∧ Mod (footS sb ob) (footS sb ob') w w' ∧ some g ≠ ob'

set_option maxRecDepth 100000 in
set_option maxHeartbeats 8000000 in
theorem linesFeed_one (w : World) (sb : Nat) (ob : Option Nat) (n i m : Nat) (ends : Bool) (s xs : ByteArray) (h : SplitAt w sb ob n ends xs) (hi : Lib.indexByte s.data.toList 10 = (i : Int)) (his : s.size = i + 1) (hi0 : i ≠ 0) (hsz : n + s.size < 1000000) (hx : xs.size < 513)
    (hm : (if byt (s.extract 0 i) ((s.extract 0 i).size - 1) == 13 then ((n + i : Nat) : Int) - 1 else ((n + i : Nat) : Int)) = (m : Int)) (hm5 : m ≤ 512) (hmx : m ≤ (keptS xs (s.extract 0 i)).size) (hk0 : (keptS xs (s.extract 0 i)).size ≠ 0) :
    Calls Tryz.prog 345 #[.pointer (some ⟨sb, 0, none⟩), .string s] w (FedOne w sb ob ((keptS xs (s.extract 0 i)).extract 0 m)) := by
  have hb1 : Boxes (((w.alloc (.cells #[.pointer (some ⟨sb, 0, none⟩)] 172)).alloc (.cells #[.string s] 9)).alloc (.cells #[.slice none 0 0] 183)) (w.heap.size + 1) w.heap.size (w.heap.size + 2) sb s (.slice none 0 0) := by
    refine ⟨?_, ?_, ?_⟩ <;> (simp only [alloc_get, alloc_size]; (repeat (first | rw [if_pos (by omega)] | rw [if_neg (by omega)])); rfl)
  have k1 : Keeps [] w (((w.alloc (.cells #[.pointer (some ⟨sb, 0, none⟩)] 172)).alloc (.cells #[.string s] 9)).alloc (.cells #[.slice none 0 0] 183)) := (((Keeps.refl _ _).alloc _).alloc _).alloc _
  have hsp1 := h.keep k1 (by simp)
  have hfo : ∀ k ∈ footS sb ob, k < w.heap.size := fun k hk => by
    obtain ⟨v, q0, q1, q2⟩ := h.own
    simp [footS] at hk
    rcases hk with hk | hk
    · rw [hk]; exact lt_of_heap q0
    · exact (q2.lt k (by rw [q1, hk])).2
  have hst := feedStep_yes _ (w.heap.size + 1) w.heap.size (w.heap.size + 2) sb ob n i m ends s xs hb1 hsp1 hi (by omega) hi0 hsz hx hm hm5 hmx hk0 (fun hh => by have := hfo _ hh; omega) (fun hh => by have := hfo _ hh; omega) (fun hh => by have := hfo _ hh; omega) (by omega) (by omega) (by omega)
  have hrest : s.extract (i + 1) s.size = ⟨#[]⟩ := by
    apply ByteArray.ext
    apply Array.ext'
    simp
    omega
  have H := Lib.hid (And.intro hst (And.intro k1 hfo))
  clear h hb1 k1 hsp1 hfo hst
  go_enter Tryz.func345, Tryz.ntmps345
  go_wp2_with fail
  refine wp_loop_rounds 2 ?_
  rw [rounds_succ]
  go_wp2_with (go_at_call 361; refine H.out.1.mono ?_; rintro e w1 ⟨rfl, ob1, g, c, hq⟩; have H1 := Lib.hid hq; clear hq)
  have hq := H1.out
  rw [hrest] at hq
  obtain ⟨hs1, hb1, hown, hgl, hk1, hgrow, hgo⟩ := hq
  rw [rounds_succ]
  have c1 : w1.cell? ⟨w.heap.size + 1, 0, none⟩ = some (.string ⟨#[]⟩) := cell_of_heap hb1.s rfl
  have c0 : w1.cell? ⟨w.heap.size, 0, none⟩ = some (.pointer (some ⟨sb, 0, none⟩)) := cell_of_heap hb1.p rfl
  have c2 : w1.cell? ⟨w.heap.size + 1 + 1, 0, none⟩ = some (.slice (some ⟨g, 0, none⟩) 1 c) := cell_of_heap hb1.o rfl
  have H2 := Lib.hid (And.intro hs1 (And.intro hb1 (And.intro hown (And.intro hgl (And.intro hk1 (And.intro hgrow hgo))))))
  clear hs1 hb1 hown hgl hk1 hgrow hgo H1
  go_wp2_with (first
    | (go_at_call 361; refine (feedStep_no _ _ _ _ sb ⟨#[]⟩ _ H2.out.2.1 rfl).mono ?_; rintro e w2 ⟨rfl, rfl⟩)
    | (go_at_call 362; refine (linesAppend_none _ sb).mono ?_; rintro e w2 ⟨rfl, rfl⟩))
  go_ret
  have hsz1 : (((w.alloc (.cells #[.pointer (some ⟨sb, 0, none⟩)] 172)).alloc (.cells #[.string s] 9)).alloc (.cells #[.slice none 0 0] 183)).heap.size = w.heap.size + 3 := by simp
  have hgl := H2.out.2.2.2.1
  rw [hsz1] at hgl
  refine ⟨g, c, ob1, rfl, H2.out.1, H2.out.2.2.1, by omega, ⟨?_, ?_⟩, H2.out.2.2.2.2.2.2⟩
  · refine (H.out.2.1.mono (by simp)).trans H2.out.2.2.2.2.1 ?_
    intro x hx hl
    simp at hx
    rcases hx with hx | hx | hx
    · omega
    · omega
    · exact hx
  · intro k hk
    rcases H2.out.2.2.2.2.2.1 k hk with hh | hh
    · exact .inl hh
    · rw [hsz1] at hh; exact .inr (by omega)
end Go.Proofs.Sess
namespace Go.Proofs.Sess
open Go Go.RowKit

theorem info267 : (Tryz.prog.info? 267).map (fun i => (i.zero, i.size, i.bytes)) = some (some (.agg #[.int .i64 0, .string ⟨#[]⟩, .string ⟨#[]⟩]), 3, 40) := by kernel_rfl

/-- A part of a message, as it is reported. -/
structure Part where
  kind : Int
  name : ByteArray
  value : ByteArray
def partV (x : Part) : List Value := [.int .i64 x.kind, .string x.name, .string x.value]
def partsV (l : List Part) : List Value := l.flatMap partV
theorem partsV_append (l m : List Part) : partsV (l ++ m) = partsV l ++ partsV m := by simp [partsV]
theorem partsV_one (x : Part) : partsV [x] = partV x := by simp [partsV]

/-- A parser of messages in block pb: its cells cs, but for the list of parts (cell 16), which lies in ob. -/
structure ParsAt (w : World) (pb : Nat) (ob : Option Nat) (cs : Array Value) (l : List Part) : Prop where
  size : cs.size = 17
  own : ∃ ov, w.heap[pb]? = some (.cells (cs.setIfInBounds 16 ov) 177 (0, 0)) ∧ ov.ownBlock = ob ∧ w.ownsRow 0 267 3 ov l.length (partsV l)
  ne : ob ≠ some pb

theorem ParsAt.keep {w w' : World} {pb : Nat} {ob : Option Nat} {cs : Array Value} {l : List Part} (h : ParsAt w pb ob cs l) {S : List Nat} (hk : Keeps S w w') (hS : ∀ k ∈ footS pb ob, k ∉ S) : ParsAt w' pb ob cs l := by
  obtain ⟨v, h1, h2, h3⟩ := h.own
  exact ⟨h.size, ⟨v, hk.heap h1 (hS pb (by simp [footS])), h2, hk.own h3 (fun k hk' => hS k (by rw [← h2, hk']; simp [footS]))⟩, h.ne⟩
theorem ParsAt.cell {w : World} {pb : Nat} {ob : Option Nat} {cs : Array Value} {l : List Part} (h : ParsAt w pb ob cs l) {o : Nat} {v : Value} (ho : o ≠ 16) (hv : cs[o]? = some v) : w.cell? ⟨pb, o, none⟩ = some v := by
  obtain ⟨ov, h1, _, _⟩ := h.own
  exact cell_of_heap h1 (by rw [Array.getElem?_setIfInBounds_ne (Ne.symm ho)]; exact hv)
theorem ParsAt.free {w : World} {pb : Nat} {ob : Option Nat} {cs : Array Value} {l : List Part} (h : ParsAt w pb ob cs l) (o : Nat) : w.frozen? ⟨pb, o, none⟩ = false := by
  obtain ⟨ov, h1, _, _⟩ := h.own
  exact free_of_heap h1
theorem ParsAt.lt {w : World} {pb : Nat} {ob : Option Nat} {cs : Array Value} {l : List Part} (h : ParsAt w pb ob cs l) : pb < w.heap.size := by
  obtain ⟨ov, h1, _, _⟩ := h.own
  exact lt_of_heap h1
theorem ParsAt.store {w : World} {pb : Nat} {ob : Option Nat} {cs : Array Value} {l : List Part} (h : ParsAt w pb ob cs l) {o : Nat} (ho : o ≠ 16) (v : Value) :
    ParsAt (w.setCell ⟨pb, o, none⟩ v) pb ob (cs.setIfInBounds o v) l := by
  obtain ⟨ov, g1, g2, g3⟩ := h.own
  refine ⟨by simp [h.size], ⟨ov, ?_, g2, ?_⟩, h.ne⟩
  · rw [heap_setCell_self g1, Array.setIfInBounds_comm _ _ (Ne.symm ho)]
  · exact g3.kept (row := some pb) ⟨rfl, rfl, rfl, by simp [World.setCell], fun k _ hk => heap_setCell_far (fun e => hk (by rw [e])) _⟩ (.inr (by rw [g2]; exact h.ne))

/-- A part is reported. -/
def Reported (w : World) (pb : Nat) (ob : Option Nat) (cs : Array Value) (l : List Part) (x : Part) (e : Ending) (w' : World) : Prop :=
  e = .returned (.tuple #[]) ∧ ∃ ob', ParsAt w' pb ob' cs (l ++ [x]) ∧ Mod (footS pb ob) (footS pb ob') w w'

set_option maxRecDepth 100000 in
set_option maxHeartbeats 4000000 in
theorem report_any (w : World) (pb : Nat) (ob : Option Nat) (cs : Array Value) (l : List Part) (kind : Int) (a b : ByteArray) (h : ParsAt w pb ob cs l) (hl : l.length < 1000000) :
    Calls Tryz.prog 352 #[.pointer (some ⟨pb, 0, none⟩), .int .i64 kind, .string a, .string b] w (Reported w pb ob cs l ⟨kind, a, b⟩) := by
  obtain ⟨i0, hi0, hz0, hz1, hz2⟩ := info_parts info267
  obtain ⟨ov, h1, h2, h3⟩ := h.own
  have hcz := h.size
  have hne := h.ne
  have hlt := h.lt
  have c16 : w.cell? ⟨pb, 16, none⟩ = some ov := cell_of_heap h1 (by rw [Array.getElem?_setIfInBounds_self_of_lt (by omega)])
  have HH := Lib.hid (And.intro h1 (And.intro h2 h3))
  clear h h1 h2 h3
  go_enter Tryz.func352, Tryz.ntmps352
  go_wp2_with (refine wpList_append_lies _ (by rfl) _ _ _ (by rfl) 0 267 i0 _ 3 40 Tryz.underlying175 hi0 hz0 hz1 hz2 rfl (by omega) ov l.length (partsV l) (by rfl) (HH.out.2.2.alloc _) ⟨w.heap.size, 0, none⟩ 1 1 (partV ⟨kind, a, b⟩) (by rfl) (by rfl) (World.news_of_block heap_alloc_self) (by simp [partV, Value.oneCell']) (by omega) (by unfold maxLen; omega) (by omega) (by simp) (w.heap.size + 1) (by simp) ?_
               intro g cap w2 hown hgrow hat hlt2
               have hpv : some pb ≠ ov.ownBlock := by rw [HH.out.2.1]; exact Ne.symm hne
               have hw2 : w2.heap[pb]? = some (.cells (cs.setIfInBounds 16 ov) 177 (0, 0)) := (hgrow.block _ (by simp; omega) hpv).trans ((heap_alloc_far hlt).trans HH.out.1)
               have hk2 : Keeps ob.toList w w2 := ((Keeps.refl _ w).alloc _).grown hgrow (fun k hk _ => by rw [HH.out.2.1] at hk; simp [hk])
               have d16 : w2.cell? ⟨pb, 16, none⟩ = some ov := cell_of_heap hw2 (by rw [Array.getElem?_setIfInBounds_self_of_lt (by omega)])
               have f16 : w2.frozen? ⟨pb, 16, none⟩ = false := free_of_heap hw2
               have hgp : g ≠ pb := by
                 rcases hat with hh | hh
                 · intro e; exact hpv (by rw [hh, e])
                 · omega
               have HQ := Lib.hid (And.intro hw2 (And.intro hk2 (And.intro hown hat)))
               clear hw2 hk2 hown hat hgrow)
  go_end0
  have hk3 : Keeps [pb] w2 (w2.setCell ⟨pb, 16, none⟩ (.slice (some ⟨g, 0, none⟩) (l.length + 1) cap)) := (Keeps.refl _ _).setCell (by simp) _
  refine ⟨rfl, some g, ⟨hcz, ⟨.slice (some ⟨g, 0, none⟩) (l.length + 1) cap, ?_, rfl, ?_⟩, by simpa using hgp⟩, ⟨?_, ?_⟩⟩
  · rw [heap_setCell_self HQ.out.1, Array.setIfInBounds_setIfInBounds]
  · have := hk3.own HQ.out.2.2.1 (fun k h => by simp [Value.ownBlock] at h; simp; omega)
    rw [partsV_append, partsV_one, List.length_append]
    exact this
  · exact (HQ.out.2.1.mono (T := footS pb ob) (by intro x hx _; simp at hx; simp [footS, hx])).trans hk3 (by simp [footS])
  · intro k hk
    simp [footS] at hk
    rcases hk with hk | hk
    · left; simp [footS, hk]
    · subst hk
      rcases HQ.out.2.2.2 with hh | hh
      · left; rw [HH.out.2.1] at hh; simp [footS, hh]
      · right; omega
end Go.Proofs.Sess
namespace Go.Proofs.Sess
open Go Go.RowKit

set_option maxRecDepth 100000 in
set_option maxHeartbeats 1600000 in
/-- The end of a message is reported. -/
theorem msgEnd_any (w : World) (pb : Nat) (ob : Option Nat) (cs : Array Value) (l : List Part) (pl : Int) (em : Bool) (h : ParsAt w pb ob cs l) (hl : l.length < 1000000) (h2 : cs[2]? = some (.int .i64 pl)) (h3 : cs[3]? = some (.bool em)) :
    Calls Tryz.prog 337 #[.pointer (some ⟨pb, 0, none⟩)] w (Reported w pb ob ((cs.setIfInBounds 2 (.int .i64 0)).setIfInBounds 3 (.bool false)) l ⟨5, ⟨#[]⟩, ⟨#[]⟩⟩) := by
  have H := Lib.hid (report_any w pb ob cs l 5 ⟨#[]⟩ ⟨#[]⟩ h hl)
  have HC := Lib.hid (And.intro h2 h3)
  clear h h2 h3
  go_enter Tryz.func337, Tryz.ntmps337
  go_upto_region 1 with (go_at_call 352; refine H.out.mono ?_; rintro e w2 ⟨rfl, ob2, hq⟩; have H2 := Lib.hid hq; clear hq)
  have c2 := H2.out.1.cell (o := 2) (by decide) HC.out.1
  have c3 := H2.out.1.cell (o := 3) (by decide) HC.out.2
  have f2 := H2.out.1.free 2
  have f3 := H2.out.1.free 3
  go_wp2_with fail
  go_end0
  have hk : Keeps [pb] w2 ((w2.setCell ⟨pb, 2, none⟩ (.int .i64 0)).setCell ⟨pb, 3, none⟩ (.bool false)) := ((Keeps.refl _ _).setCell (by simp) _).setCell (by simp) _
  refine ⟨rfl, ob2, (H2.out.1.store (o := 2) (by decide) _).store (o := 3) (by decide) _, H2.out.2.keeps.trans hk ?_, H2.out.2.grow⟩
  simp [footS]

/-- The parts are taken. -/
def PartsTaken (w : World) (pb : Nat) (ob : Option Nat) (cs : Array Value) (l : List Part) (e : Ending) (w' : World) : Prop :=
  ∃ v, e = .returned v ∧ ParsAt w' pb none cs [] ∧ w'.ownsRow 0 267 3 v l.length (partsV l) ∧ v.ownBlock = ob ∧ Keeps [pb] w w'

set_option maxRecDepth 100000 in
set_option maxHeartbeats 1600000 in
theorem partsTaken (w : World) (pb : Nat) (ob : Option Nat) (cs : Array Value) (l : List Part) (h : ParsAt w pb ob cs l) :
    Calls Tryz.prog 340 #[.pointer (some ⟨pb, 0, none⟩)] w (PartsTaken w pb ob cs l) := by
  obtain ⟨ov, h1, h2, h3⟩ := h.own
  have hcz := h.size
  have hne := h.ne
  have c16 : w.cell? ⟨pb, 16, none⟩ = some ov := cell_of_heap h1 (by rw [Array.getElem?_setIfInBounds_self_of_lt (by omega)])
  have f16 := h.free 16
  obtain ⟨va, vc, hv⟩ : ∃ a c, ov = .slice a l.length c := by
    rcases h3.2 with ⟨hvn, hn0⟩ | ⟨g, cap, cur, hvs, _⟩
    · exact ⟨none, 0, by rw [hvn, hn0]⟩
    · exact ⟨_, _, hvs⟩
  have HH := Lib.hid (And.intro h1 (And.intro h2 h3))
  clear h h1 h2 h3
  subst hv
  go_enter Tryz.func340, Tryz.ntmps340
  go_wp2
  go_ret
  have hk : Keeps [pb] w (w.setCell ⟨pb, 16, none⟩ (.slice none 0 0)) := (Keeps.refl _ _).setCell (by simp) _
  refine ⟨.slice va l.length vc, rfl, ⟨hcz, ⟨.slice none 0 0, ?_, rfl, World.ownsRow_nil _ _ _ _⟩, by simp⟩, hk.own HH.out.2.2 (fun k hk => ?_), HH.out.2.1, hk⟩
  · rw [heap_setCell_self HH.out.1, Array.setIfInBounds_setIfInBounds]
  · rw [HH.out.2.1] at hk
    intro hh
    simp at hh
    exact hne (by rw [hk, hh])

set_option maxHeartbeats 400000 in
theorem capital_yes (c : Int) (w : World) (h1 : 65 ≤ c) (h2 : c ≤ 90) : Calls Tryz.prog 384 #[.int .u8 c] w fun e w' => e = .returned (.bool true) ∧ w = w' := by
  go_enter Tryz.func384, Tryz.ntmps384
  go_wp2
  go_ret
  exact ⟨rfl, rfl⟩

set_option maxHeartbeats 800000 in
theorem version_11 (w : World) : Calls Tryz.prog 385 #[.string ⟨#[72, 84, 84, 80, 47, 49, 46, 49]⟩] w fun e w' => e = .returned (.bool true) ∧ w = w' := by
  have hT := toList_mk
  go_enter Tryz.func385, Tryz.ntmps385
  go_wp2
  go_ret
  exact ⟨rfl, rfl⟩

set_option maxHeartbeats 800000 in
theorem flush_none (w : World) (pb : Nat) (h : w.cell? ⟨pb, 8, none⟩ = some (.bool false)) : Calls Tryz.prog 364 #[.pointer (some ⟨pb, 0, none⟩)] w fun e w' => e = .returned (.tuple #[]) ∧ w = w' := by
  go_enter Tryz.func364, Tryz.ntmps364
  go_wp2_with fail
  refine bodyPost_ret (results_none rfl _ _ _) rfl ?_
  exact ⟨rfl, rfl⟩
end Go.Proofs.Sess
namespace Go.Proofs.Sess
open Go Go.RowKit

set_option maxRecDepth 100000 in
set_option maxHeartbeats 1600000 in
theorem all_get (w : World) : Calls Tryz.prog 383 #[.string ⟨#[71, 69, 84]⟩, .int .i64 16, .func (.func 384) #[] #[]] w fun e w' => e = .returned (.bool true) ∧ w = w' := by
  have hT := toList_mk
  go_enter Tryz.func383, Tryz.ntmps383
  go_wp2_with fail
  refine wp_loop_rounds 4 ?_
  rw [rounds_succ]
  go_wp2_with (go_at_call 384; refine (capital_yes _ _ (by decide) (by decide)).mono ?_; rintro e w1 ⟨rfl, rfl⟩)
  rw [rounds_succ]
  go_wp2_with (go_at_call 384; refine (capital_yes _ _ (by decide) (by decide)).mono ?_; rintro e w1 ⟨rfl, rfl⟩)
  rw [rounds_succ]
  go_wp2_with (go_at_call 384; refine (capital_yes _ _ (by decide) (by decide)).mono ?_; rintro e w1 ⟨rfl, rfl⟩)
  rw [rounds_succ]
  go_wp2_with fail
  go_ret
  exact ⟨rfl, rfl⟩
end Go.Proofs.Sess
namespace Go.Proofs.Sess
open Go Go.RowKit

set_option maxRecDepth 100000 in
set_option maxHeartbeats 1600000 in
theorem index_one (s : ByteArray) (c : UInt8) (w : World) (hne : [c] ≠ s.toList) : Calls Tryz.prog 394 #[.string s, .string ⟨#[c]⟩] w fun e w' => e = .returned (.int .i64 (Lib.indexByte s.data.toList c)) ∧ w = w' := by
  have hT := toList_mk
  have hne1 : ([c] = s.toList) = False := eq_false hne
  have hne2 : (s.toList = [c]) = False := eq_false (fun e => hne e.symm)
  have hne3 : ([c] == s.data.toList) = false := by rw [← toList_eq]; simpa using hne
  clear hne
  go_enter Tryz.func394, Tryz.ntmps394
  go_wp2_with (go_at_call 360; refine (sliteIndexByte s _ _).mono ?_; rintro e w1 ⟨rfl, rfl⟩)
  go_ret
  exact ⟨by simp; rfl, rfl⟩

set_option maxRecDepth 100000 in
set_option maxHeartbeats 1600000 in
/-- Cut at one byte that is there. -/
theorem slCut_yes (s : ByteArray) (c : UInt8) (i : Nat) (w : World) (hne : [c] ≠ s.toList) (hi : Lib.indexByte s.data.toList c = (i : Int)) (his : i < s.size) (hsz : s.size < 1000000) :
    Calls Tryz.prog 370 #[.string s, .string ⟨#[c]⟩] w fun e w' => e = .returned (.tuple #[.string (s.extract 0 i), .string (s.extract (i + 1) s.size), .bool true]) ∧ w.drew = w' := by
  have hT := toList_mk
  have hii : (0 : Int) ≤ (i : Int) := by omega
  have hil : i ≤ s.size := by omega
  have hil1 : i + 1 ≤ s.size := by omega
  have hilI : (i : Int) ≤ (s.size : Int) := by omega
  have hil1I : (i : Int) + 1 ≤ (s.size : Int) := by omega
  have hi10 : (0 : Int) ≤ (i : Int) + 1 := by omega
  have hw1 : IntKind.i64.wrap ((i : Int) + 1) = (i : Int) + 1 := IntWalk.i64_in _ (by omega)
  have hI := Lib.hid (index_one s c w hne)
  clear hne
  go_enter Tryz.func370, Tryz.ntmps370
  go_upto_region 3 with (go_at_call 394; refine hI.out.mono ?_; rintro e w1 ⟨rfl, rfl⟩; rw [hi])
  refine wp_region_seq (fun _ => True)
    [(0, 0), (1, 0), (2, 0), (3, 0), (4, 0), (5, 0), (6, 0), (7, 0), (8, 0), (9, 0), (10, 0), (11, 0)]
    [] (by kernel_rfl) (by kernel_rfl) (fun d _ _ _ _ h => by cases d <;> exact h) ?_
  simp only [picks, List.getD_cons_succ, List.getD_cons_zero]
  (refine seq_pure (v := ?_) (by rfl) ?_ ?_; rotate_left; focus (intro wq; first | (go_simp; done) | (go_simp; with_reducible rfl))); (try simp only [Act.put, List.setIfInBounds_toArray, List.set_cons_zero, List.set_cons_succ])
  (refine seq_pure (v := ?_) (by rfl) ?_ ?_; rotate_left; focus (intro wq; first | (go_simp; done) | (go_simp; with_reducible rfl))); (try simp only [Act.put, List.setIfInBounds_toArray, List.set_cons_zero, List.set_cons_succ])
  (refine seq_pure (v := ?_) (by rfl) ?_ ?_; rotate_left; focus (intro wq; first | (go_simp; done) | (go_simp; with_reducible rfl))); (try simp only [Act.put, List.setIfInBounds_toArray, List.set_cons_zero, List.set_cons_succ])
  (refine seq_pure (v := ?_) (by rfl) ?_ ?_; rotate_left; focus (intro wq; first | (go_simp; done) | (go_simp; with_reducible rfl))); (try simp only [Act.put, List.setIfInBounds_toArray, List.set_cons_zero, List.set_cons_succ])
  (refine seq_pure (v := ?_) (by rfl) ?_ ?_; rotate_left; focus (intro wq; first | (go_simp; done) | (go_simp; with_reducible rfl))); (try simp only [Act.put, List.setIfInBounds_toArray, List.set_cons_zero, List.set_cons_succ])
  (refine seq_pure (v := ?_) (by rfl) ?_ ?_; rotate_left; focus (intro wq; first | (go_simp; done) | (go_simp; with_reducible rfl))); (try simp only [Act.put, List.setIfInBounds_toArray, List.set_cons_zero, List.set_cons_succ])
  (refine seq_pure (v := ?_) (by rfl) ?_ ?_; rotate_left; focus (intro wq; first | (go_simp; done) | (go_simp; with_reducible rfl))); (try simp only [Act.put, List.setIfInBounds_toArray, List.set_cons_zero, List.set_cons_succ])
  (refine seq_pure (v := ?_) (by rfl) ?_ ?_; rotate_left; focus (intro wq; first | (go_simp; done) | (go_simp; with_reducible rfl))); (try simp only [Act.put, List.setIfInBounds_toArray, List.set_cons_zero, List.set_cons_succ])
  (refine seq_pure (v := ?_) (by rfl) ?_ ?_; rotate_left; focus (intro wq; first | (go_simp; done) | (go_simp; with_reducible rfl))); (try simp only [Act.put, List.setIfInBounds_toArray, List.set_cons_zero, List.set_cons_succ])
  (refine seq_pure (v := ?_) (by rfl) ?_ ?_; rotate_left; focus (intro wq; first | (go_simp; done) | (go_simp; with_reducible rfl))); (try simp only [Act.put, List.setIfInBounds_toArray, List.set_cons_zero, List.set_cons_succ])
  (refine seq_pure (v := ?_) (by rfl) ?_ ?_; rotate_left; focus (intro wq; first | (go_simp; done) | (go_simp; with_reducible rfl))); (try simp only [Act.put, List.setIfInBounds_toArray, List.set_cons_zero, List.set_cons_succ])
  (refine seq_pure (v := ?_) (by rfl) ?_ ?_; rotate_left; focus (intro wq; first | (go_simp; done) | (go_simp; with_reducible rfl))); (try simp only [Act.put, List.setIfInBounds_toArray, List.set_cons_zero, List.set_cons_succ])
  refine seq_nil ?_
  go_wp2_with fail
  refine bodyPost_ret (v := .tuple #[.string (s.extract 0 i), .string (s.extract (i + 1) s.size), .bool true]) ?_ rfl ⟨rfl, rfl⟩
  simp only [results, show Tryz.f370.results = #[ResultVar.tmp 4, ResultVar.tmp 5, ResultVar.tmp 6] from rfl]
  simp

set_option maxRecDepth 100000 in
set_option maxHeartbeats 1600000 in
theorem cut_yes (s : ByteArray) (c : UInt8) (i : Nat) (w : World) (hne : [c] ≠ s.toList) (hi : Lib.indexByte s.data.toList c = (i : Int)) (his : i < s.size) (hsz : s.size < 1000000) :
    Calls Tryz.prog 348 #[.string s, .string ⟨#[c]⟩] w fun e w' => e = .returned (.tuple #[.string (s.extract 0 i), .string (s.extract (i + 1) s.size), .bool true]) ∧ w.drew = w' := by
  go_enter Tryz.func348, Tryz.ntmps348
  go_wp2_with (go_at_call 370; refine (slCut_yes s c i _ hne hi his hsz).mono ?_; rintro e w1 ⟨rfl, rfl⟩)
  refine bodyPost_ret (v := .tuple #[.string (s.extract 0 i), .string (s.extract (i + 1) s.size), .bool true]) ?_ rfl ⟨rfl, rfl⟩
  simp only [results, show Tryz.f348.results = #[ResultVar.tmp 4, ResultVar.tmp 5, ResultVar.tmp 6] from rfl]
  simp
end Go.Proofs.Sess
namespace Go.Proofs.Sess
open Go Go.RowKit

theorem cutA (w : World) : Calls Tryz.prog 348 #[.string ⟨#[71, 69, 84, 32, 47, 97, 32, 72, 84, 84, 80, 47, 49, 46, 49]⟩, .string ⟨#[32]⟩] w fun e w' => e = .returned (.tuple #[.string ⟨#[71, 69, 84]⟩, .string ⟨#[47, 97, 32, 72, 84, 84, 80, 47, 49, 46, 49]⟩, .bool true]) ∧ w.drew = w' :=
  cut_yes ⟨#[71, 69, 84, 32, 47, 97, 32, 72, 84, 84, 80, 47, 49, 46, 49]⟩ 32 3 w (by rw [toList_mk]; simp) rfl (by decide) (by decide)
theorem cutB (w : World) : Calls Tryz.prog 348 #[.string ⟨#[47, 97, 32, 72, 84, 84, 80, 47, 49, 46, 49]⟩, .string ⟨#[32]⟩] w fun e w' => e = .returned (.tuple #[.string ⟨#[47, 97]⟩, .string ⟨#[72, 84, 84, 80, 47, 49, 46, 49]⟩, .bool true]) ∧ w.drew = w' :=
  cut_yes ⟨#[47, 97, 32, 72, 84, 84, 80, 47, 49, 46, 49]⟩ 32 2 w (by rw [toList_mk]; simp) rfl (by decide) (by decide)

set_option maxRecDepth 100000 in
set_option maxHeartbeats 4000000 in
theorem start_get (w : World) (pb : Nat) (ob : Option Nat) (cs : Array Value) (l : List Part) (_em : Bool) (pl ct : Int) (co ln : Value) (h : ParsAt w pb ob cs l) (hl : l.length < 1000000) (h0 : cs[0]? = some (.bool true)) (h2 : cs[2]? = some (.int .i64 pl)) (h9 : cs[9]? = some (.int .i64 ct)) (h12 : cs[12]? = some co) (h13 : cs[13]? = some ln) :
    Calls Tryz.prog 365 #[.pointer (some ⟨pb, 0, none⟩), .string ⟨#[71, 69, 84, 32, 47, 97, 32, 72, 84, 84, 80, 47, 49, 46, 49]⟩] w
      (Reported w pb ob ((((cs.setIfInBounds 2 (.int .i64 1)).setIfInBounds 9 (.int .i64 0)).setIfInBounds 12 (.slice none 0 0)).setIfInBounds 13 (.slice none 0 0)) l ⟨1, ⟨#[71, 69, 84]⟩, ⟨#[47, 97]⟩⟩) := by
  have hT := toList_mk
  have hd : Keeps [] w w.drew.drew := (Keeps.refl _ _).drew.drew
  have h' := h.keep hd (by simp)
  have c0 : w.drew.drew.cell? ⟨pb, 0, none⟩ = some (.bool true) := h'.cell (by decide) h0
  have H := Lib.hid (report_any w.drew.drew pb ob cs l 1 ⟨#[71, 69, 84]⟩ ⟨#[47, 97]⟩ h' hl)
  have HC := Lib.hid (And.intro h2 (And.intro h9 (And.intro h12 h13)))
  clear h h' h0 h2 h9 h12 h13
  go_enter Tryz.func365, Tryz.ntmps365
  go_upto_region 3 with (go_at_call 348; refine (cutA _).mono ?_; rintro e w1 ⟨rfl, rfl⟩)
  go_upto_region 13 with (first
    | (go_at_call 348; refine (cutB _).mono ?_; rintro e w1 ⟨rfl, rfl⟩)
    | (go_at_call 383; refine (all_get _).mono ?_; rintro e w1 ⟨rfl, rfl⟩)
    | (go_at_call 385; refine (version_11 _).mono ?_; rintro e w1 ⟨rfl, rfl⟩)
    | (go_at_call 352; refine H.out.mono ?_; rintro e w2 ⟨rfl, ob2, hq⟩; have H2 := Lib.hid hq; clear hq))
  have c2 := H2.out.1.cell (o := 2) (by decide) HC.out.1
  have c9 := H2.out.1.cell (o := 9) (by decide) HC.out.2.1
  have c12 := H2.out.1.cell (o := 12) (by decide) HC.out.2.2.1
  have c13 := H2.out.1.cell (o := 13) (by decide) HC.out.2.2.2
  have f2 := H2.out.1.free 2
  have f9 := H2.out.1.free 9
  have f12 := H2.out.1.free 12
  have f13 := H2.out.1.free 13
  go_wp2_with fail
  go_end0
  have hk : Keeps [pb] w2 ((((w2.setCell ⟨pb, 2, none⟩ (.int .i64 1)).setCell ⟨pb, 9, none⟩ (.int .i64 0)).setCell ⟨pb, 12, none⟩ (.slice none 0 0)).setCell ⟨pb, 13, none⟩ (.slice none 0 0)) := ((((Keeps.refl _ _).setCell (by simp) _).setCell (by simp) _).setCell (by simp) _).setCell (by simp) _
  refine ⟨rfl, ob2, (((H2.out.1.store (o := 2) (by decide) _).store (o := 9) (by decide) _).store (o := 12) (by decide) _).store (o := 13) (by decide) _, ?_⟩
  have hm : Mod (footS pb ob) (footS pb ob2) w w2 := Mod.keeps_then hd H2.out.2
  exact ⟨hm.keeps.trans hk (by simp [footS]), hm.grow⟩
end Go.Proofs.Sess
namespace Go.Proofs.Sess
open Go Go.RowKit

set_option maxRecDepth 100000 in
set_option maxHeartbeats 2000000 in
/-- A request without a body ends. -/
theorem bodies_none (w : World) (pb : Nat) (ob : Option Nat) (cs : Array Value) (l : List Part) (pl : Int) (em : Bool) (h : ParsAt w pb ob cs l) (hl : l.length < 1000000) (h0 : cs[0]? = some (.bool true)) (h2 : cs[2]? = some (.int .i64 pl)) (h3 : cs[3]? = some (.bool em)) (h12 : cs[12]? = some (.slice none 0 0)) (h13 : cs[13]? = some (.slice none 0 0)) :
    Calls Tryz.prog 366 #[.pointer (some ⟨pb, 0, none⟩)] w (Reported w pb ob ((cs.setIfInBounds 2 (.int .i64 0)).setIfInBounds 3 (.bool false)) l ⟨5, ⟨#[]⟩, ⟨#[]⟩⟩) := by
  have c0 := h.cell (by decide) h0
  have c12 := h.cell (by decide) h12
  have c13 := h.cell (by decide) h13
  have H := Lib.hid (msgEnd_any w pb ob cs l pl em h hl h2 h3)
  clear h h0 h2 h3 h12 h13
  go_enter Tryz.func366, Tryz.ntmps366
  go_wp2_with fail
  refine wp_loop_rounds 1 ?_
  rw [rounds_succ]
  go_wp2_with fail
  refine wp_loop_rounds 1 ?_
  rw [rounds_succ]
  go_wp2_with (go_at_call 337; refine H.out.mono ?_; rintro e w2 ⟨rfl, hq⟩; have H2 := Lib.hid hq; clear hq)
  go_end0
  exact ⟨rfl, H2.out⟩

set_option maxRecDepth 100000 in
set_option maxHeartbeats 2000000 in
/-- An empty line behind the fields of a request without a body. -/
theorem msgLine_blank (w : World) (pb : Nat) (ob : Option Nat) (cs : Array Value) (l : List Part) (em : Bool) (h : ParsAt w pb ob cs l) (hl : l.length < 1000000) (h0 : cs[0]? = some (.bool true)) (h2 : cs[2]? = some (.int .i64 1)) (h3 : cs[3]? = some (.bool em)) (h8 : cs[8]? = some (.bool false)) (h12 : cs[12]? = some (.slice none 0 0)) (h13 : cs[13]? = some (.slice none 0 0)) :
    Calls Tryz.prog 346 #[.pointer (some ⟨pb, 0, none⟩), .agg #[.string ⟨#[]⟩, .bool false]] w (Reported w pb ob ((cs.setIfInBounds 2 (.int .i64 0)).setIfInBounds 3 (.bool false)) l ⟨5, ⟨#[]⟩, ⟨#[]⟩⟩) := by
  have hT := toList_mk
  have hk : Keeps [] w (w.alloc (.cells #[.string ⟨#[]⟩, .bool false] 310)) := (Keeps.refl _ _).alloc _
  have h' := h.keep hk (by simp)
  have c2 : (w.alloc (.cells #[.string ⟨#[]⟩, .bool false] 310)).cell? ⟨pb, 2, none⟩ = some (.int .i64 1) := h'.cell (by decide) h2
  have hF := Lib.hid (flush_none (w.alloc (.cells #[.string ⟨#[]⟩, .bool false] 310)) pb (h'.cell (by decide) h8))
  have hB := Lib.hid (bodies_none _ pb ob cs l 1 em h' hl h0 h2 h3 h12 h13)
  clear h h' h0 h2 h3 h8 h12 h13
  go_enter Tryz.func346, Tryz.ntmps346
  go_wp2_with (first
    | (go_at_call 364; refine hF.out.mono ?_; rintro e w2 ⟨rfl, rfl⟩)
    | (go_at_call 366; refine hB.out.mono ?_; rintro e w2 ⟨rfl, ob2, hq⟩; have H2 := Lib.hid hq; clear hq))
  go_end0
  exact ⟨rfl, ob2, H2.out.1, Mod.keeps_then hk H2.out.2⟩

set_option maxRecDepth 100000 in
set_option maxHeartbeats 2000000 in
/-- The start line of the GET. -/
theorem msgLine_start (w : World) (pb : Nat) (ob : Option Nat) (cs : Array Value) (l : List Part) (_em : Bool) (ct : Int) (co ln : Value) (h : ParsAt w pb ob cs l) (hl : l.length < 1000000) (h0 : cs[0]? = some (.bool true)) (h2 : cs[2]? = some (.int .i64 0)) (h9 : cs[9]? = some (.int .i64 ct)) (h12 : cs[12]? = some co) (h13 : cs[13]? = some ln) :
    Calls Tryz.prog 346 #[.pointer (some ⟨pb, 0, none⟩), .agg #[.string ⟨#[71, 69, 84, 32, 47, 97, 32, 72, 84, 84, 80, 47, 49, 46, 49]⟩, .bool false]] w
      (Reported w pb ob ((((cs.setIfInBounds 2 (.int .i64 1)).setIfInBounds 9 (.int .i64 0)).setIfInBounds 12 (.slice none 0 0)).setIfInBounds 13 (.slice none 0 0)) l ⟨1, ⟨#[71, 69, 84]⟩, ⟨#[47, 97]⟩⟩) := by
  have hk : Keeps [] w (w.alloc (.cells #[.string ⟨#[71, 69, 84, 32, 47, 97, 32, 72, 84, 84, 80, 47, 49, 46, 49]⟩, .bool false] 310)) := (Keeps.refl _ _).alloc _
  have h' := h.keep hk (by simp)
  have c2 : (w.alloc (.cells #[.string ⟨#[71, 69, 84, 32, 47, 97, 32, 72, 84, 84, 80, 47, 49, 46, 49]⟩, .bool false] 310)).cell? ⟨pb, 2, none⟩ = some (.int .i64 0) := h'.cell (by decide) h2
  have hB := Lib.hid (start_get _ pb ob cs l false 0 ct co ln h' hl h0 h2 h9 h12 h13)
  clear h h' h0 h2 h9 h12 h13
  go_enter Tryz.func346, Tryz.ntmps346
  go_wp2_with (go_at_call 365; refine hB.out.mono ?_; rintro e w2 ⟨rfl, ob2, hq⟩; have H2 := Lib.hid hq; clear hq)
  go_end0
  exact ⟨rfl, ob2, H2.out.1, Mod.keeps_then hk H2.out.2⟩
end Go.Proofs.Sess
namespace Go.Proofs.Sess
open Go Go.RowKit

/-- httpmsg.Feed of a piece without a line's end, at the place of a start line. -/
def MsgFedNo (w : World) (pb sb : Nat) (ob : Option Nat) (cs : Array Value) (n : Nat) (s xs : ByteArray) (e : Ending) (w' : World) : Prop :=
  ∃ ob', e = .returned (.slice none 0 0) ∧ ParsAt w' pb none cs [] ∧ SplitAt w' sb ob' (n + s.size) (byt s (s.size - 1) == 13) (keptS xs s) ∧ Keeps ([pb] ++ footS sb ob) w w' ∧ (∀ k ∈ footS sb ob', k ∈ footS sb ob ∨ w.heap.size ≤ k)

set_option maxRecDepth 100000 in
set_option maxHeartbeats 4000000 in
theorem msgFeed_no (w : World) (pb sb : Nat) (ob : Option Nat) (cs : Array Value) (n : Nat) (ends : Bool) (s xs : ByteArray) (h : ParsAt w pb none cs []) (h1 : cs[1]? = some (.pointer (some ⟨sb, 0, none⟩))) (h2 : cs[2]? = some (.int .i64 0)) (hsp : SplitAt w sb ob n ends xs) (hi : Lib.indexByte s.data.toList 10 = -1) (hs : s.size ≠ 0) (hx : xs.size < 513) (hn : n + s.size < 1000000) (hpb : pb ∉ footS sb ob) :
    Calls Tryz.prog 331 #[.pointer (some ⟨pb, 0, none⟩), .string s] w (MsgFedNo w pb sb ob cs n s xs) := by
  have hT := toList_eq
  have hse : s.toList.isEmpty = false := toList_some hs
  have hsl : (s.data.toList == []) = false := by rw [← toList_eq]; cases hq : s.toList with | nil => rw [hq] at hse; simp at hse | cons a l => rfl
  have c1 := h.cell (by decide) h1
  have c2 := h.cell (by decide) h2
  have hX : s.extract 0 s.size = s := by simp
  have hX2 : s.extract s.size s.size = ⟨#[]⟩ := by apply ByteArray.ext; apply Array.ext'; simp
  have HF := Lib.hid (linesFeed_no w.drew sb ob n ends s xs (hsp.keep (S := []) (Keeps.refl _ _).drew (by simp)) hi hs hx hn)
  have H := Lib.hid h
  clear h h1 h2 hsp hse
  go_enter Tryz.func331, Tryz.ntmps331
  go_wp2_with fail
  refine wp_scope_straight ?_
  go_wp2_with fail
  refine wp_label ?_
  go_wp2_with fail
  refine wp_loop_rounds 2 ?_
  rw [rounds_succ]
  go_upto_region 8 with (go_at_call 344; refine (indexByte_any s 10 _).mono ?_; rintro e w' ⟨rfl, rfl⟩; rw [show (10 : Int).toNat.toUInt8 = 10 from rfl, hi])
  have hS : (fun wx : World => wx.cell? ⟨pb, 1, none⟩ = some (.pointer (some ⟨sb, 0, none⟩))) w.drew := c1
  refine wp_region_seq (fun wx : World => wx.cell? ⟨pb, 1, none⟩ = some (.pointer (some ⟨sb, 0, none⟩)))
    [(0, 0), (1, 0), (2, 0), (3, 1), (4, 0), (5, 0), (6, 0), (9, 0), (7, 3), (8, 0)]
    [[7, 3]] (by kernel_rfl) (by kernel_rfl) (fun d _ _ _ _ h => by cases d <;> exact h) ?_
  simp only [picks, List.getD_cons_succ, List.getD_cons_zero]
  (refine seq_pure (v := ?_) (by rfl) ?_ ?_; rotate_left; focus (intro wq; first | (go_simp; done) | (go_simp; with_reducible rfl))); (try simp only [Act.put, List.setIfInBounds_toArray, List.set_cons_zero, List.set_cons_succ])
  (refine seq_pure (v := ?_) (by rfl) ?_ ?_; rotate_left; focus (intro wq; first | (go_simp; done) | (go_simp; with_reducible rfl))); (try simp only [Act.put, List.setIfInBounds_toArray, List.set_cons_zero, List.set_cons_succ])
  (refine seq_pure (v := ?_) (by rfl) ?_ ?_; rotate_left; focus (intro wq; first | (go_simp; done) | (go_simp; with_reducible rfl))); (try simp only [Act.put, List.setIfInBounds_toArray, List.set_cons_zero, List.set_cons_succ])
  (refine seq_read (v := ?_) hS (by rfl) ?_ ?_; rotate_left; focus (intro wq hSq; obtain hq1 := hSq; first | (go_simp; done) | (go_simp; with_reducible rfl))); (try simp only [Act.put, List.setIfInBounds_toArray, List.set_cons_zero, List.set_cons_succ])
  (refine seq_pure (v := ?_) (by rfl) ?_ ?_; rotate_left; focus (intro wq; first | (go_simp; done) | (go_simp; with_reducible rfl))); (try simp only [Act.put, List.setIfInBounds_toArray, List.set_cons_zero, List.set_cons_succ])
  (refine seq_pure (v := ?_) (by rfl) ?_ ?_; rotate_left; focus (intro wq; first | (go_simp; done) | (go_simp; with_reducible rfl))); (try simp only [Act.put, List.setIfInBounds_toArray, List.set_cons_zero, List.set_cons_succ])
  (refine seq_pure (v := ?_) (by rfl) ?_ ?_; rotate_left; focus (intro wq; first | (go_simp; done) | (go_simp; with_reducible rfl))); (try simp only [Act.put, List.setIfInBounds_toArray, List.set_cons_zero, List.set_cons_succ])
  (refine seq_pure (v := ?_) (by rfl) ?_ ?_; rotate_left; focus (intro wq; first | (go_simp; done) | (go_simp; with_reducible rfl))); (try simp only [Act.put, List.setIfInBounds_toArray, List.set_cons_zero, List.set_cons_succ])
  refine seq_do (fun K hK => ?_)
  go_simp
  refine HF.out.mono ?_
  rintro e w2 ⟨rfl, ob2, hq⟩
  have H2 := Lib.hid hq
  clear hq
  refine hK.out _ _ ?_; clear hK; clear K
  (try simp only [Act.put, List.setIfInBounds_toArray, List.set_cons_zero, List.set_cons_succ])
  (refine seq_pure (v := ?_) (by rfl) ?_ ?_; rotate_left; focus (intro wq; first | (go_simp; done) | (go_simp; with_reducible rfl))); (try simp only [Act.put, List.setIfInBounds_toArray, List.set_cons_zero, List.set_cons_succ])
  refine seq_nil ?_
  clear hS
  go_wp2_with fail
  refine wp_loop_rounds 1 ?_
  rw [rounds_succ]
  go_wp2_with fail
  rw [rounds_succ]
  have hp2 : ParsAt w2 pb none cs [] := (H.out.keep (S := []) (w' := w.drew) (Keeps.refl _ _).drew (by simp)).keep H2.out.2.keeps (by intro k hk hh; simp [footS] at hk; subst hk; exact hpb hh)
  have HP := Lib.hid (partsTaken w2 pb none cs [] hp2)
  clear hp2
  go_wp2_with (go_at_call 340; refine HP.out.mono ?_; rintro e w3 ⟨v, rfl, q1, q2, q3, q4⟩; have H3 := Lib.hid (And.intro q1 (And.intro q2 (And.intro q3 q4))); clear q1 q2 q3 q4)
  have hv : v = .slice none 0 0 := by
    rcases H3.out.2.1.2 with ⟨hv, _⟩ | ⟨g, cap, cur, hv, _⟩
    · exact hv
    · have := H3.out.2.2.1; rw [hv] at this; cases this
  subst hv
  refine bodyPost_ret (results_tmp rfl _ _ _) rfl ?_
  have hpb2 : pb ∉ footS sb ob2 := fun hh => by
    rcases H2.out.2.grow pb hh with h | h
    · exact hpb h
    · have := H.out.lt
      have hd : w.drew.heap.size = w.heap.size := rfl
      omega
  refine ⟨ob2, rfl, H3.out.1, H2.out.1.keep H3.out.2.2.2 (fun k hk hh => by simp at hh; subst hh; exact hpb2 hk), ?_, fun k hk => H2.out.2.grow k hk⟩
  have ka : Keeps ([pb] ++ footS sb ob) w w2 := (Keeps.refl _ w).drew.trans H2.out.2.keeps (fun x hx _ => by simp [hx])
  exact ka.trans H3.out.2.2.2 (by simp)
end Go.Proofs.Sess
namespace Go.Proofs.Sess
open Go Go.RowKit

set_option maxRecDepth 100000 in
set_option maxHeartbeats 1600000 in
/-- Cut at one byte that is not there. -/
theorem slCut_no (s : ByteArray) (c : UInt8) (w : World) (hne : [c] ≠ s.toList) (hi : Lib.indexByte s.data.toList c = -1) :
    Calls Tryz.prog 370 #[.string s, .string ⟨#[c]⟩] w fun e w' => e = .returned (.tuple #[.string s, .string ⟨#[]⟩, .bool false]) ∧ w = w' := by
  have hI := Lib.hid (index_one s c w hne)
  clear hne
  go_enter Tryz.func370, Tryz.ntmps370
  go_wp2_with (go_at_call 394; refine hI.out.mono ?_; rintro e w1 ⟨rfl, rfl⟩; rw [hi])
  refine bodyPost_ret (v := .tuple #[.string s, .string ⟨#[]⟩, .bool false]) ?_ rfl ⟨rfl, rfl⟩
  simp only [results, show Tryz.f370.results = #[ResultVar.tmp 4, ResultVar.tmp 5, ResultVar.tmp 6] from rfl]
  simp

set_option maxRecDepth 100000 in
set_option maxHeartbeats 1600000 in
theorem cut_no (s : ByteArray) (c : UInt8) (w : World) (hne : [c] ≠ s.toList) (hi : Lib.indexByte s.data.toList c = -1) :
    Calls Tryz.prog 348 #[.string s, .string ⟨#[c]⟩] w fun e w' => e = .returned (.tuple #[.string s, .string ⟨#[]⟩, .bool false]) ∧ w = w' := by
  go_enter Tryz.func348, Tryz.ntmps348
  go_wp2_with (go_at_call 370; refine (slCut_no s c _ hne hi).mono ?_; rintro e w1 ⟨rfl, rfl⟩)
  refine bodyPost_ret (v := .tuple #[.string s, .string ⟨#[]⟩, .bool false]) ?_ rfl ⟨rfl, rfl⟩
  simp only [results, show Tryz.f348.results = #[ResultVar.tmp 4, ResultVar.tmp 5, ResultVar.tmp 6] from rfl]
  simp
end Go.Proofs.Sess
namespace Go.Proofs.Sess
open Go Go.RowKit

theorem info9 : (Tryz.prog.info? 9).map (fun i => (i.zero, i.size, i.bytes)) = some (some (.string ⟨#[]⟩), 1, 16) := by kernel_rfl

set_option maxRecDepth 100000 in
set_option maxHeartbeats 2000000 in
/-- The first method that a parser of responses is told. -/
theorem expect_first (w : World) (pb : Nat) (ob : Option Nat) (cs : Array Value) (l : List Part) (s : ByteArray) (h : ParsAt w pb ob cs l) (h0 : cs[0]? = some (.bool false)) (h4 : cs[4]? = some (.slice none 0 0)) :
    Calls Tryz.prog 334 #[.pointer (some ⟨pb, 0, none⟩), .string s] w fun e w' => e = .returned (.tuple #[]) ∧ ∃ v, ParsAt w' pb ob (cs.setIfInBounds 4 v) l ∧ Keeps [pb] w w' := by
  obtain ⟨i0, hi0, hz0, hz1, hz2⟩ := info_parts info9
  have c0 := h.cell (by decide) h0
  have c4 := h.cell (by decide) h4
  have hlt := h.lt
  have HH := Lib.hid h
  have HC := Lib.hid h4
  clear h h0 h4
  go_enter Tryz.func334, Tryz.ntmps334
  go_wp2_with (refine wpList_append_lies _ (by rfl) _ _ _ (by rfl) w.heap.size 9 i0 _ 1 16 Tryz.underlying47 hi0 hz0 hz1 hz2 rfl (by omega) (.slice none 0 0) 0 [] (by rfl) (World.ownsRow_nil _ _ _ _) ⟨w.heap.size, 0, none⟩ 1 1 [.string s] (by rfl) (by rfl) (World.news_of_block heap_alloc_self) (by simp [Value.oneCell']) (by omega) (by unfold maxLen; omega) (by omega) (by simp) (w.heap.size + 1) (by simp) ?_
               intro g cap w2 hown hgrow hat hlt2
               have hk2 : Keeps [] w w2 := ((Keeps.refl _ w).alloc _).grown hgrow (by simp [Value.ownBlock])
               have hp2 := HH.out.keep hk2 (by simp)
               have d4 := hp2.cell (by decide) HC.out
               have e4 := hp2.free 4
               have HQ := Lib.hid (And.intro hk2 hp2)
               clear hk2 hp2 hown hgrow hat)
  go_end0
  exact ⟨rfl, _, HQ.out.2.store (o := 4) (by decide) _, (HQ.out.1.mono (by simp)).trans ((Keeps.refl [pb] _).setCell (by simp) _) (fun _ h _ => h)⟩
end Go.Proofs.Sess
namespace Go.Proofs.Sess
open Go Go.RowKit

set_option maxRecDepth 100000 in
set_option maxHeartbeats 1600000 in
theorem lastIndex_a (w : World) : Calls Tryz.prog 371 #[.string ⟨#[47, 97]⟩, .int .u8 47] w fun e w' => e = .returned (.int .i64 0) ∧ w = w' := by
  have hT := toList_mk
  go_enter Tryz.func371, Tryz.ntmps371
  go_wp2_with fail
  refine wp_loop_rounds 3 ?_
  rw [rounds_succ]
  go_wp2_with fail
  rw [rounds_succ]
  go_wp2_with fail
  go_ret
  exact ⟨rfl, rfl⟩

set_option maxRecDepth 100000 in
set_option maxHeartbeats 1600000 in
theorem lastIndexS_a (w : World) : Calls Tryz.prog 349 #[.string ⟨#[47, 97]⟩, .string ⟨#[47]⟩] w fun e w' => e = .returned (.int .i64 0) ∧ w = w' := by
  have hT := toList_mk
  go_enter Tryz.func349, Tryz.ntmps349
  go_wp2_with (go_at_call 371; refine (lastIndex_a _).mono ?_; rintro e w1 ⟨rfl, rfl⟩)
  go_ret
  exact ⟨rfl, rfl⟩

set_option maxRecDepth 100000 in
set_option maxHeartbeats 1600000 in
/-- The name of the file of the target "/a". -/
theorem fileName_a (w : World) : Calls Tryz.prog 333 #[.string ⟨#[47, 97]⟩] w fun e w' => e = .returned (.string ⟨#[97]⟩) ∧ w = w' := by
  have hT := toList_mk
  have hX : (ByteArray.mk #[47, 97]).extract 1 2 = ⟨#[97]⟩ := by rfl
  go_enter Tryz.func333, Tryz.ntmps333
  go_wp2_with (first
    | (go_at_call 348; refine (cut_no ⟨#[47, 97]⟩ 63 _ (by rw [toList_mk]; simp) rfl).mono ?_; rintro e w1 ⟨rfl, rfl⟩)
    | (go_at_call 349; refine (lastIndexS_a _).mono ?_; rintro e w1 ⟨rfl, rfl⟩))
  go_ret
  exact ⟨rfl, rfl⟩
end Go.Proofs.Sess
namespace Go.Proofs.Sess
open Go Go.RowKit

/-- The parts of the GET. -/
def getParts : List Part := [⟨1, ⟨#[71, 69, 84]⟩, ⟨#[47, 97]⟩⟩, ⟨5, ⟨#[]⟩, ⟨#[]⟩⟩]

/-- httpmsg.Feed of the rest of the GET, behind its first four bytes. -/
def MsgFedGet (w : World) (pb sb : Nat) (ob : Option Nat) (e : Ending) (w' : World) : Prop :=
  ∃ v, e = .returned v ∧ w'.ownsRow 0 267 3 v 2 (partsV getParts) ∧ (∀ k, v.ownBlock = some k → w.heap.size ≤ k) ∧ Keeps ([pb] ++ footS sb ob) w w'

/-- The two cells of a row of one line. -/
theorem line_cells {w : World} {g c : Nat} {l : ByteArray} (h : w.ownsRow 0 310 2 (.slice (some ⟨g, 0, none⟩) 1 c) 1 [.string l, .bool false]) :
    w.cell? ⟨g, 0, none⟩ = some (.string l) ∧ w.cell? ⟨g, 1, none⟩ = some (.bool false) := by
  have hc := h.cells (g := g) rfl
  have add : ∀ j, (⟨g, 0, none⟩ : Addr).add j = ⟨g, j, none⟩ := fun j => by unfold Addr.add; split <;> simp_all
  refine ⟨?_, ?_⟩
  · rw [← add]; exact hc 0 _ rfl
  · rw [← add]; exact hc 1 _ rfl

set_option maxRecDepth 100000 in
set_option maxHeartbeats 8000000 in
theorem msgFeed_get (w : World) (pb sb : Nat) (ob : Option Nat) (cs : Array Value) (em : Bool) (ct : Int) (co ln : Value) (h : ParsAt w pb none cs []) (h0 : cs[0]? = some (.bool true)) (h1 : cs[1]? = some (.pointer (some ⟨sb, 0, none⟩))) (h2 : cs[2]? = some (.int .i64 0)) (h3 : cs[3]? = some (.bool em)) (h8 : cs[8]? = some (.bool false)) (h9 : cs[9]? = some (.int .i64 ct)) (h12 : cs[12]? = some co) (h13 : cs[13]? = some ln) (hsp : SplitAt w sb ob 4 false ⟨#[71, 69, 84, 32]⟩) (hpb : pb ∉ footS sb ob) :
    Calls Tryz.prog 331 #[.pointer (some ⟨pb, 0, none⟩), .string ⟨#[47, 97, 32, 72, 84, 84, 80, 47, 49, 46, 49, 13, 10, 13, 10]⟩] w (MsgFedGet w pb sb ob) := by
  have hT := toList_mk
  have hX1 : (ByteArray.mk #[47, 97, 32, 72, 84, 84, 80, 47, 49, 46, 49, 13, 10, 13, 10]).extract 0 13 = ⟨#[47, 97, 32, 72, 84, 84, 80, 47, 49, 46, 49, 13, 10]⟩ := by rfl
  have hX2 : (ByteArray.mk #[47, 97, 32, 72, 84, 84, 80, 47, 49, 46, 49, 13, 10, 13, 10]).extract 13 15 = ⟨#[13, 10]⟩ := by rfl
  have hX3 : (ByteArray.mk #[13, 10]).extract 0 2 = ⟨#[13, 10]⟩ := by rfl
  have hX4 : (ByteArray.mk #[13, 10]).extract 2 2 = ⟨#[]⟩ := by rfl
  have hi1 : Lib.indexByte (ByteArray.mk #[47, 97, 32, 72, 84, 84, 80, 47, 49, 46, 49, 13, 10, 13, 10]).data.toList 10 = 12 := by rfl
  have hi2 : Lib.indexByte (ByteArray.mk #[13, 10]).data.toList 10 = 1 := by rfl
  have hlt := h.lt
  have hsz := h.size
  have hcs : ∃ cs2, cs2 = ((((cs.setIfInBounds 2 (.int .i64 1)).setIfInBounds 9 (.int .i64 0)).setIfInBounds 12 (.slice none 0 0)).setIfInBounds 13 (.slice none 0 0)) ∧ cs2[0]? = some (.bool true) ∧ cs2[1]? = some (.pointer (some ⟨sb, 0, none⟩)) ∧ cs2[2]? = some (.int .i64 1) ∧ cs2[3]? = some (.bool em) ∧ cs2[8]? = some (.bool false) ∧ cs2[12]? = some (.slice none 0 0) ∧ cs2[13]? = some (.slice none 0 0) := by
    refine ⟨_, rfl, ?_, ?_, ?_, ?_, ?_, ?_, ?_⟩ <;> (repeat (first | rw [Array.getElem?_setIfInBounds_ne (by decide)] | rw [Array.getElem?_setIfInBounds_self_of_lt (by first | omega | (simp only [Array.size_setIfInBounds]; omega))])) <;> assumption
  obtain ⟨cs2, hcs2, k0, k1, k2, k3, k8, k12, k13⟩ := hcs
  have c1 := h.cell (by decide) h1
  have c2 := h.cell (by decide) h2
  have hsp' : SplitAt w.drew sb ob 4 false ⟨#[71, 69, 84, 32]⟩ := hsp.keep (S := []) (Keeps.refl _ _).drew (by simp)
  have hf1 : Calls Tryz.prog 345 #[.pointer (some ⟨sb, 0, none⟩), .string ⟨#[47, 97, 32, 72, 84, 84, 80, 47, 49, 46, 49, 13, 10]⟩] w.drew (FedOne w.drew sb ob ⟨#[71, 69, 84, 32, 47, 97, 32, 72, 84, 84, 80, 47, 49, 46, 49]⟩) :=
    linesFeed_one w.drew sb ob 4 12 15 false ⟨#[47, 97, 32, 72, 84, 84, 80, 47, 49, 46, 49, 13, 10]⟩ ⟨#[71, 69, 84, 32]⟩ hsp' (by rfl) (by rfl) (by decide) (by decide) (by decide) (by rfl) (by decide) (by decide) (by decide)
  have HF := Lib.hid hf1
  have H := Lib.hid h
  have HC := Lib.hid (And.intro h0 (And.intro h2 (And.intro h9 (And.intro h12 h13))))
  have HK := Lib.hid (And.intro k0 (And.intro k1 (And.intro k2 (And.intro k3 (And.intro k8 (And.intro k12 k13))))))
  have HCS := Lib.hid hcs2
  clear h h0 h1 h2 h3 h8 h9 h12 h13 hsp hsp' hf1 k0 k1 k2 k3 k8 k12 k13 hcs2
  go_enter Tryz.func331, Tryz.ntmps331
  go_wp2_with fail
  refine wp_scope_straight ?_
  go_wp2_with fail
  refine wp_label ?_
  go_wp2_with fail
  refine wp_loop_rounds 3 ?_
  rw [rounds_succ]
  go_upto_region 8 with (go_at_call 344; refine (indexByte_any _ 10 _).mono ?_; rintro e w' ⟨rfl, rfl⟩; rw [show (10 : Int).toNat.toUInt8 = 10 from rfl, hi1])
  have hS : (fun wx : World => wx.cell? ⟨pb, 1, none⟩ = some (.pointer (some ⟨sb, 0, none⟩))) w.drew := c1
  refine wp_region_seq (fun wx : World => wx.cell? ⟨pb, 1, none⟩ = some (.pointer (some ⟨sb, 0, none⟩)))
    [(0, 0), (1, 0), (2, 0), (3, 1), (4, 0), (5, 0), (6, 0), (9, 0), (7, 3), (8, 0)]
    [[7, 3]] (by kernel_rfl) (by kernel_rfl) (fun d _ _ _ _ h => by cases d <;> exact h) ?_
  simp only [picks, List.getD_cons_succ, List.getD_cons_zero]
  (refine seq_pure (v := ?_) (by rfl) ?_ ?_; rotate_left; focus (intro wq; first | (go_simp; done) | (go_simp; with_reducible rfl))); (try simp only [Act.put, List.setIfInBounds_toArray, List.set_cons_zero, List.set_cons_succ])
  (refine seq_pure (v := ?_) (by rfl) ?_ ?_; rotate_left; focus (intro wq; first | (go_simp; done) | (go_simp; with_reducible rfl))); (try simp only [Act.put, List.setIfInBounds_toArray, List.set_cons_zero, List.set_cons_succ])
  (refine seq_pure (v := ?_) (by rfl) ?_ ?_; rotate_left; focus (intro wq; first | (go_simp; done) | (go_simp; with_reducible rfl))); (try simp only [Act.put, List.setIfInBounds_toArray, List.set_cons_zero, List.set_cons_succ])
  (refine seq_read (v := ?_) hS (by rfl) ?_ ?_; rotate_left; focus (intro wq hSq; obtain hq1 := hSq; first | (go_simp; done) | (go_simp; with_reducible rfl))); (try simp only [Act.put, List.setIfInBounds_toArray, List.set_cons_zero, List.set_cons_succ])
  (refine seq_pure (v := ?_) (by rfl) ?_ ?_; rotate_left; focus (intro wq; first | (go_simp; done) | (go_simp; with_reducible rfl))); (try simp only [Act.put, List.setIfInBounds_toArray, List.set_cons_zero, List.set_cons_succ])
  (refine seq_pure (v := ?_) (by rfl) ?_ ?_; rotate_left; focus (intro wq; first | (go_simp; done) | (go_simp; with_reducible rfl))); (try simp only [Act.put, List.setIfInBounds_toArray, List.set_cons_zero, List.set_cons_succ])
  (refine seq_pure (v := ?_) (by rfl) ?_ ?_; rotate_left; focus (intro wq; first | (go_simp; done) | (go_simp; with_reducible rfl))); (try simp only [Act.put, List.setIfInBounds_toArray, List.set_cons_zero, List.set_cons_succ])
  (refine seq_pure (v := ?_) (by rfl) ?_ ?_; rotate_left; focus (intro wq; first | (go_simp; done) | (go_simp; with_reducible rfl))); (try simp only [Act.put, List.setIfInBounds_toArray, List.set_cons_zero, List.set_cons_succ])
  refine seq_do (fun K hK => ?_)
  go_simp
  refine HF.out.mono ?_
  rintro e w2 ⟨g, c, ob1, rfl, q1, q2, q3, q4, q5⟩
  have H2 := Lib.hid (And.intro q1 (And.intro q2 (And.intro q3 (And.intro q4 q5))))
  clear q1 q2 q3 q4 q5
  refine hK.out _ _ ?_; clear hK; clear K
  (try simp only [Act.put, List.setIfInBounds_toArray, List.set_cons_zero, List.set_cons_succ])
  (refine seq_pure (v := ?_) (by rfl) ?_ ?_; rotate_left; focus (intro wq; first | (go_simp; done) | (go_simp; with_reducible rfl))); (try simp only [Act.put, List.setIfInBounds_toArray, List.set_cons_zero, List.set_cons_succ])
  refine seq_nil ?_
  clear hS c1 c2
  have hd : w.drew.heap.size = w.heap.size := rfl
  obtain ⟨d0, d1⟩ := line_cells H2.out.2.1
  have hp2 : ParsAt w2 pb none cs [] := (H.out.keep (S := []) (w' := w.drew) (Keeps.refl _ _).drew (by simp)).keep H2.out.2.2.2.1.keeps (by intro k hk hh; simp [footS] at hk; subst hk; exact hpb hh)
  have hka : Keeps [] w2 (w2.alloc (.cells #[.string ⟨#[71, 69, 84, 32, 47, 97, 32, 72, 84, 84, 80, 47, 49, 46, 49]⟩, .bool false] 310)) := (Keeps.refl _ _).alloc _
  have hl1 := msgLine_start _ pb none cs [] em ct co ln (hp2.keep hka (by simp)) (by decide) HC.out.1 HC.out.2.1 HC.out.2.2.1 HC.out.2.2.2.1 HC.out.2.2.2.2
  rw [← HCS.out] at hl1
  have HL := Lib.hid hl1
  have HKA := Lib.hid hka
  clear hp2 hl1 hka
  go_wp2_with fail
  refine wp_loop_rounds 2 ?_
  rw [rounds_succ]
  go_wp2_with (go_at_call 346; refine HL.out.mono ?_; rintro e w3 ⟨rfl, ob2, q1, q2⟩; have H3 := Lib.hid (And.intro q1 q2); clear q1 q2)
  rw [rounds_succ]
  go_wp2_with fail
  have hob1 : pb ∉ footS sb ob1 := fun hh => by
    rcases H2.out.2.2.2.1.grow pb hh with h | h
    · exact hpb h
    · omega
  have hsp3 : SplitAt w3 sb ob1 0 false ⟨#[]⟩ := (H2.out.1.keep HKA.out (by simp)).keep H3.out.2.keeps (fun k hk hh => by simp [footS] at hh; subst hh; exact hob1 hk)
  have e1 := H3.out.1.cell (by decide) HK.out.2.1
  have e2 := H3.out.1.cell (by decide) HK.out.2.2.1
  have hf2 : Calls Tryz.prog 345 #[.pointer (some ⟨sb, 0, none⟩), .string ⟨#[13, 10]⟩] w3.drew (FedOne w3.drew sb ob1 ⟨#[]⟩) :=
    linesFeed_one w3.drew sb ob1 0 1 0 false ⟨#[13, 10]⟩ ⟨#[]⟩ (hsp3.keep (S := []) (Keeps.refl _ _).drew (by simp)) (by rfl) (by rfl) (by decide) (by decide) (by decide) (by rfl) (by decide) (by decide) (by decide)
  have HF2 := Lib.hid hf2
  clear hf2 hsp3 HF d0 d1 HL
  rw [rounds_succ]
  go_upto_region 8 with (go_at_call 344; refine (indexByte_any _ 10 _).mono ?_; rintro e w' ⟨rfl, rfl⟩; rw [show (10 : Int).toNat.toUInt8 = 10 from rfl, hi2])
  have hS : (fun wx : World => wx.cell? ⟨pb, 1, none⟩ = some (.pointer (some ⟨sb, 0, none⟩))) w3.drew := e1
  refine wp_region_seq (fun wx : World => wx.cell? ⟨pb, 1, none⟩ = some (.pointer (some ⟨sb, 0, none⟩)))
    [(0, 0), (1, 0), (2, 0), (3, 1), (4, 0), (5, 0), (6, 0), (9, 0), (7, 3), (8, 0)]
    [[7, 3]] (by kernel_rfl) (by kernel_rfl) (fun d _ _ _ _ h => by cases d <;> exact h) ?_
  simp only [picks, List.getD_cons_succ, List.getD_cons_zero]
  (refine seq_pure (v := ?_) (by rfl) ?_ ?_; rotate_left; focus (intro wq; first | (go_simp; done) | (go_simp; with_reducible rfl))); (try simp only [Act.put, List.setIfInBounds_toArray, List.set_cons_zero, List.set_cons_succ])
  (refine seq_pure (v := ?_) (by rfl) ?_ ?_; rotate_left; focus (intro wq; first | (go_simp; done) | (go_simp; with_reducible rfl))); (try simp only [Act.put, List.setIfInBounds_toArray, List.set_cons_zero, List.set_cons_succ])
  (refine seq_pure (v := ?_) (by rfl) ?_ ?_; rotate_left; focus (intro wq; first | (go_simp; done) | (go_simp; with_reducible rfl))); (try simp only [Act.put, List.setIfInBounds_toArray, List.set_cons_zero, List.set_cons_succ])
  (refine seq_read (v := ?_) hS (by rfl) ?_ ?_; rotate_left; focus (intro wq hSq; obtain hq1 := hSq; first | (go_simp; done) | (go_simp; with_reducible rfl))); (try simp only [Act.put, List.setIfInBounds_toArray, List.set_cons_zero, List.set_cons_succ])
  (refine seq_pure (v := ?_) (by rfl) ?_ ?_; rotate_left; focus (intro wq; first | (go_simp; done) | (go_simp; with_reducible rfl))); (try simp only [Act.put, List.setIfInBounds_toArray, List.set_cons_zero, List.set_cons_succ])
  (refine seq_pure (v := ?_) (by rfl) ?_ ?_; rotate_left; focus (intro wq; first | (go_simp; done) | (go_simp; with_reducible rfl))); (try simp only [Act.put, List.setIfInBounds_toArray, List.set_cons_zero, List.set_cons_succ])
  (refine seq_pure (v := ?_) (by rfl) ?_ ?_; rotate_left; focus (intro wq; first | (go_simp; done) | (go_simp; with_reducible rfl))); (try simp only [Act.put, List.setIfInBounds_toArray, List.set_cons_zero, List.set_cons_succ])
  (refine seq_pure (v := ?_) (by rfl) ?_ ?_; rotate_left; focus (intro wq; first | (go_simp; done) | (go_simp; with_reducible rfl))); (try simp only [Act.put, List.setIfInBounds_toArray, List.set_cons_zero, List.set_cons_succ])
  refine seq_do (fun K hK => ?_)
  go_simp
  refine HF2.out.mono ?_
  rintro e w4 ⟨g2, c2, ob3, rfl, q1, q2, q3, q4, q5⟩
  have H4 := Lib.hid (And.intro q1 (And.intro q2 (And.intro q3 (And.intro q4 q5))))
  clear q1 q2 q3 q4 q5
  refine hK.out _ _ ?_; clear hK; clear K
  (try simp only [Act.put, List.setIfInBounds_toArray, List.set_cons_zero, List.set_cons_succ])
  (refine seq_pure (v := ?_) (by rfl) ?_ ?_; rotate_left; focus (intro wq; first | (go_simp; done) | (go_simp; with_reducible rfl))); (try simp only [Act.put, List.setIfInBounds_toArray, List.set_cons_zero, List.set_cons_succ])
  refine seq_nil ?_
  clear hS e1 e2
  obtain ⟨d0, d1⟩ := line_cells H4.out.2.1
  have hgr : ∀ k ∈ footS pb ob2, k = pb ∨ (w2.alloc (.cells #[.string ⟨#[71, 69, 84, 32, 47, 97, 32, 72, 84, 84, 80, 47, 49, 46, 49]⟩, .bool false] 310)).heap.size ≤ k := fun k hk => by
    rcases H3.out.2.grow k hk with h | h
    · simp [footS] at h; exact .inl h
    · exact .inr h
  have hsz2 := H2.out.2.2.2.1.keeps.size
  have hsz3 := H3.out.2.keeps.size
  have hsz4 := H4.out.2.2.2.1.keeps.size
  have hsa : (w2.alloc (.cells #[.string ⟨#[71, 69, 84, 32, 47, 97, 32, 72, 84, 84, 80, 47, 49, 46, 49]⟩, .bool false] 310)).heap.size = w2.heap.size + 1 := by simp
  have hd3 : w3.drew.heap.size = w3.heap.size := rfl
  have hob2 : ∀ k ∈ footS pb ob2, k ∉ footS sb ob1 := fun k hk hh => by
    rcases hgr k hk with h | h
    · subst h; exact hob1 hh
    · have hl : k < w2.heap.size := by
        obtain ⟨v, q0, q1, q2⟩ := H2.out.1.own
        simp [footS] at hh
        rcases hh with hh | hh
        · rw [hh]; exact lt_of_heap q0
        · exact (q2.lt k (by rw [q1, hh])).2
      omega
  have hp4 : ParsAt w4 pb ob2 cs2 ([] ++ [⟨1, ⟨#[71, 69, 84]⟩, ⟨#[47, 97]⟩⟩]) := (H3.out.1.keep (S := []) (w' := w3.drew) (Keeps.refl _ _).drew (by simp)).keep H4.out.2.2.2.1.keeps hob2
  have hkb : Keeps [] w4 (w4.alloc (.cells #[.string ⟨#[]⟩, .bool false] 310)) := (Keeps.refl _ _).alloc _
  have HL := Lib.hid (msgLine_blank _ pb ob2 cs2 _ em (hp4.keep hkb (by simp)) (by decide) HK.out.1 HK.out.2.2.1 HK.out.2.2.2.1 HK.out.2.2.2.2.1 HK.out.2.2.2.2.2.1 HK.out.2.2.2.2.2.2)
  have HKB := Lib.hid hkb
  clear hp4 hkb
  go_wp2_with fail
  refine wp_loop_rounds 2 ?_
  rw [rounds_succ]
  go_wp2_with (go_at_call 346; refine HL.out.mono ?_; rintro e w5 ⟨rfl, ob4, q1, q2⟩; have H5 := Lib.hid (And.intro q1 q2); clear q1 q2)
  rw [rounds_succ]
  go_wp2_with fail
  rw [rounds_succ]
  have HP := Lib.hid (partsTaken w5 pb ob4 _ _ H5.out.1)
  go_wp2_with (go_at_call 340; refine HP.out.mono ?_; rintro e w6 ⟨v, rfl, q1, q2, q3, q4⟩; have H6 := Lib.hid (And.intro q1 (And.intro q2 (And.intro q3 q4))); clear q1 q2 q3 q4)
  have hsz5 := H5.out.2.keeps.size
  have hsb : (w4.alloc (.cells #[.string ⟨#[]⟩, .bool false] 310)).heap.size = w4.heap.size + 1 := by simp
  refine bodyPost_ret (results_tmp rfl _ _ _) rfl ?_
  refine ⟨v, rfl, H6.out.2.1, fun k hk => ?_, ?_⟩
  · rw [H6.out.2.2.1] at hk
    have hne := H5.out.1.ne
    have hk4 : k ∈ footS pb ob4 := by simp [footS, hk]
    rcases H5.out.2.grow k hk4 with h | h
    · rcases hgr k h with h | h
      · exact absurd (by rw [hk, h]) hne
      · omega
    · omega
  · have ka : Keeps ([pb] ++ footS sb ob) w w2 := (Keeps.refl _ w).drew.trans H2.out.2.2.2.1.keeps (fun x hx _ => by simp [hx])
    have kb : Keeps ([pb] ++ footS sb ob) w w3 := (ka.trans HKA.out (by simp)).trans H3.out.2.keeps (by simp [footS])
    have kc : Keeps ([pb] ++ footS sb ob) w w4 := kb.drew.trans H4.out.2.2.2.1.keeps (fun x hx hl => by
      rcases H2.out.2.2.2.1.grow x hx with h | h
      · simp [h]
      · omega)
    have kd : Keeps ([pb] ++ footS sb ob) w w5 := (kc.trans HKB.out (by simp)).trans H5.out.2.keeps (fun x hx hl => by
      rcases hgr x hx with h | h
      · simp [h]
      · omega)
    exact kd.trans H6.out.2.2.2 (by simp)
end Go.Proofs.Sess
namespace Go.Proofs.Sess
open Go Go.RowKit

/-- The cells of the parsers of HTTP: no body has begun. -/
def HttpCells (b p1 p2 : Nat) (nm : ByteArray) (nms : Value) : Array Value :=
  #[.pointer (some ⟨b, 0, none⟩), .pointer none, .pointer none, .string ⟨#[]⟩, .pointer (some ⟨p1, 0, none⟩), .pointer none, .string nm, .pointer (some ⟨p2, 0, none⟩), .pointer none, .string ⟨#[]⟩, nms]

theorem SessAt.foot_lt {w : World} {b mb : Nat} {ob : Option Nat} {cs : Array Value} {f : Int → Int → Int} {l : List Buf} (h : SessAt w b mb ob cs f l) : ∀ k ∈ foot b mb ob, k < w.heap.size := fun k hk => by
  simp [foot] at hk
  rcases hk with hk | hk | hk
  · rw [hk]; exact h.lt
  · rw [hk]; exact h.ltm
  · exact h.lto hk

set_option maxRecDepth 100000 in
set_option maxHeartbeats 1600000 in
theorem parts_nil (w : World) (hb : Nat) (dir : Int) (hd0 : 0 ≤ dir) (hd1 : dir < 3) (gap : Bool) : Calls Tryz.prog 328 #[.pointer (some ⟨hb, 0, none⟩), .int .i64 dir, .slice none 0 0, .bool gap] w fun e w' => e = .returned (.tuple #[]) ∧ w = w' := by
  go_enter Tryz.func328, Tryz.ntmps328
  go_wp2_with fail
  refine wp_loop_rounds 1 ?_
  rw [rounds_succ]
  go_wp2_with fail
  go_end0
  exact ⟨rfl, rfl⟩

/-- The end of a body that has not begun. -/
theorem httpEnd_none (w : World) (hb : Nat) (whole : Bool) (h : w.cell? ⟨hb, 5, none⟩ = some (.pointer none)) : Calls Tryz.prog 330 #[.pointer (some ⟨hb, 0, none⟩), .int .i64 1, .bool whole] w fun e w' => e = .returned (.tuple #[]) ∧ w = w' := by
  go_enter Tryz.func330, Tryz.ntmps330
  go_wp2_with fail
  go_end0
  exact ⟨rfl, rfl⟩

/-- The cells of the parts of the GET. -/
theorem get_cells {w : World} {g c : Nat} (h : w.ownsRow 0 267 3 (.slice (some ⟨g, 0, none⟩) 2 c) 2 (partsV getParts)) :
    w.cell? ⟨g, 0, none⟩ = some (.int .i64 1) ∧ w.cell? ⟨g, 1, none⟩ = some (.string ⟨#[71, 69, 84]⟩) ∧ w.cell? ⟨g, 2, none⟩ = some (.string ⟨#[47, 97]⟩) ∧ w.cell? ⟨g, 3, none⟩ = some (.int .i64 5) ∧ w.cell? ⟨g, 4, none⟩ = some (.string ⟨#[]⟩) ∧ w.cell? ⟨g, 5, none⟩ = some (.string ⟨#[]⟩) := by
  have hc := h.cells (g := g) rfl
  have add : ∀ j, (⟨g, 0, none⟩ : Addr).add j = ⟨g, j, none⟩ := fun j => by unfold Addr.add; split <;> simp_all
  refine ⟨?_, ?_, ?_, ?_, ?_, ?_⟩ <;> (rw [← add]; exact hc _ _ rfl)

/-- What the parts of the GET leave. -/
def PartsGet (w : World) (b mb hb p2 : Nat) (ob : Option Nat) (cs : Array Value) (f : Int → Int → Int) (e : Ending) (w' : World) : Prop :=
  e = .returned (.tuple #[]) ∧ ∃ ob', SessAt w' b mb ob' cs (bump (bump f 3 1) 4 1) ([⟨3, 1, f 3 1, ⟨#[71, 69, 84]⟩⟩] ++ [⟨4, 1, bump f 3 1 4 1, ⟨#[47, 97]⟩⟩]) ∧ Keeps ([hb, p2] ++ foot b mb ob) w w' ∧ (∀ k ∈ foot b mb ob', k ∈ foot b mb ob ∨ w.heap.size ≤ k)

set_option maxRecDepth 100000 in
set_option maxHeartbeats 8000000 in
theorem parts_get (w : World) (b mb hb p1 p2 : Nat) (ob : Option Nat) (cs cs2 : Array Value) (f : Int → Int → Int) (v : Value)
    (h : SessAt w b mb ob cs f []) (hf3 : 0 ≤ f 3 1 ∧ f 3 1 < 1000) (hf4 : 0 ≤ f 4 1 ∧ f 4 1 < 1000) (hh : w.heap[hb]? = some (.cells (HttpCells b p1 p2 ⟨#[]⟩ (.slice none 0 0)) 133 (0, 0)))
    (hp : ParsAt w p2 none cs2 []) (g0 : cs2[0]? = some (.bool false)) (g4 : cs2[4]? = some (.slice none 0 0)) (hv : w.ownsRow 0 267 3 v 2 (partsV getParts))
    (hfo : hb ∉ foot b mb ob) (hpo : p2 ∉ foot b mb ob) (hph : p2 ≠ hb) (hgo : ∀ g, v.ownBlock = some g → g ∉ foot b mb ob ∧ g ≠ hb ∧ g ≠ p2) :
    Calls Tryz.prog 328 #[.pointer (some ⟨hb, 0, none⟩), .int .i64 1, v, .bool false] w (PartsGet w b mb hb p2 ob cs f) := by
  obtain ⟨i0, hi0, hz0, hz1, hz2⟩ := info_parts info9
  obtain ⟨g, c, rfl⟩ : ∃ g c, v = .slice (some ⟨g, 0, none⟩) 2 c := by
    rcases hv.2 with ⟨hvn, hn0⟩ | ⟨g, cap, cur, hvs, _⟩
    · omega
    · exact ⟨g, cap, hvs⟩
  obtain ⟨ho1, ho2, ho3⟩ := hgo g rfl
  obtain ⟨d0, d1, d2, d3, d4, d5⟩ := get_cells hv
  have hgl : g < w.heap.size := (hv.lt g rfl).2
  have hbl := lt_of_heap hh
  have hpl := hp.lt
  have hflt := h.foot_lt
  have hcut1 : cutS ⟨#[71, 69, 84]⟩ = ⟨#[71, 69, 84]⟩ := rfl
  have hcut2 : cutS ⟨#[47, 97]⟩ = ⟨#[47, 97]⟩ := rfl
  have hbm : bump f 3 1 4 1 = f 4 1 := by unfold bump; rw [if_neg (by omega)]
  have ha1 : Keeps [] w (w.alloc (.cells #[.int .i64 1, .string ⟨#[71, 69, 84]⟩, .string ⟨#[47, 97]⟩] 267)).drew := ((Keeps.refl _ _).alloc _).drew
  have hm1 : (w.alloc (.cells #[.int .i64 1, .string ⟨#[71, 69, 84]⟩, .string ⟨#[47, 97]⟩] 267)).drew.heap[w.heap.size]? = some (.cells #[.int .i64 1, .string ⟨#[71, 69, 84]⟩, .string ⟨#[47, 97]⟩] 267 (0, 0)) := heap_alloc_self
  have hsz1 : (w.alloc (.cells #[.int .i64 1, .string ⟨#[71, 69, 84]⟩, .string ⟨#[47, 97]⟩] 267)).drew.heap.size = w.heap.size + 1 := by rw [drew_size]; simp
  have hh1 := ha1.heap hh (by simp)
  have hP1 := put_sess _ b mb ob cs f [] 3 1 ⟨#[71, 69, 84]⟩ (h.keep ha1 (by simp)) (by decide) hf3.1 (by omega)
  have c01 : (w.alloc (.cells #[.int .i64 1, .string ⟨#[71, 69, 84]⟩, .string ⟨#[47, 97]⟩] 267)).drew.cell? ⟨hb, 0, none⟩ = some (.pointer (some ⟨b, 0, none⟩)) := cell_of_heap hh1 rfl
  have c11 : (w.alloc (.cells #[.int .i64 1, .string ⟨#[71, 69, 84]⟩, .string ⟨#[47, 97]⟩] 267)).drew.cell? ⟨w.heap.size, 1, none⟩ = some (.string ⟨#[71, 69, 84]⟩) := cell_of_heap hm1 rfl
  have hP := Lib.hid hP1
  have HA := Lib.hid (And.intro ha1 (And.intro hm1 (And.intro hsz1 hh1)))
  have H := Lib.hid (And.intro hp (And.intro g0 g4))
  have HD := Lib.hid (And.intro d3 (And.intro d4 d5))
  have HH := Lib.hid hh
  clear h hv hh hp g0 g4 hgo ha1 hm1 hsz1 hh1 hP1 d3 d4 d5
  go_enter Tryz.func328, Tryz.ntmps328
  go_wp2_with fail
  refine wp_loop_rounds 3 ?_
  rw [rounds_succ]
  go_upto_region 6 with fail
  have hS : (fun wx : World => wx.cell? ⟨hb, 0, none⟩ = some (.pointer (some ⟨b, 0, none⟩)) ∧ wx.cell? ⟨w.heap.size, 1, none⟩ = some (.string ⟨#[71, 69, 84]⟩)) (w.alloc (.cells #[.int .i64 1, .string ⟨#[71, 69, 84]⟩, .string ⟨#[47, 97]⟩] 267)).drew := ⟨c01, c11⟩
  refine wp_region_seq (fun wx : World => wx.cell? ⟨hb, 0, none⟩ = some (.pointer (some ⟨b, 0, none⟩)) ∧ wx.cell? ⟨w.heap.size, 1, none⟩ = some (.string ⟨#[71, 69, 84]⟩))
    [(0, 0), (1, 0), (2, 0), (3, 1), (4, 0), (5, 0), (6, 1), (7, 3)]
    [[7, 3], [7, 6]] (by kernel_rfl) (by kernel_rfl) (fun d _ _ _ _ h => by cases d <;> exact h) ?_
  simp only [picks, List.getD_cons_succ, List.getD_cons_zero]
  (refine seq_pure (v := ?_) (by rfl) ?_ ?_; rotate_left; focus (intro wq; first | (go_simp; done) | (go_simp; with_reducible rfl))); (try simp only [Act.put, List.setIfInBounds_toArray, List.set_cons_zero, List.set_cons_succ])
  (refine seq_pure (v := ?_) (by rfl) ?_ ?_; rotate_left; focus (intro wq; first | (go_simp; done) | (go_simp; with_reducible rfl))); (try simp only [Act.put, List.setIfInBounds_toArray, List.set_cons_zero, List.set_cons_succ])
  (refine seq_pure (v := ?_) (by rfl) ?_ ?_; rotate_left; focus (intro wq; first | (go_simp; done) | (go_simp; with_reducible rfl))); (try simp only [Act.put, List.setIfInBounds_toArray, List.set_cons_zero, List.set_cons_succ])
  (refine seq_read (v := ?_) hS (by rfl) ?_ ?_; rotate_left; focus (intro wq hSq; obtain ⟨hq1, hq2⟩ := hSq; first | (go_simp; done) | (go_simp; with_reducible rfl))); (try simp only [Act.put, List.setIfInBounds_toArray, List.set_cons_zero, List.set_cons_succ])
  (refine seq_pure (v := ?_) (by rfl) ?_ ?_; rotate_left; focus (intro wq; first | (go_simp; done) | (go_simp; with_reducible rfl))); (try simp only [Act.put, List.setIfInBounds_toArray, List.set_cons_zero, List.set_cons_succ])
  (refine seq_pure (v := ?_) (by rfl) ?_ ?_; rotate_left; focus (intro wq; first | (go_simp; done) | (go_simp; with_reducible rfl))); (try simp only [Act.put, List.setIfInBounds_toArray, List.set_cons_zero, List.set_cons_succ])
  (refine seq_read (v := ?_) hS (by rfl) ?_ ?_; rotate_left; focus (intro wq hSq; obtain ⟨hq1, hq2⟩ := hSq; first | (go_simp; done) | (go_simp; with_reducible rfl))); (try simp only [Act.put, List.setIfInBounds_toArray, List.set_cons_zero, List.set_cons_succ])
  refine seq_do (fun K hK => ?_)
  go_simp
  refine hP.out.mono ?_
  rintro e w2 ⟨rfl, ob1, q1, q2⟩
  have H2 := Lib.hid (And.intro q1 q2)
  clear q1 q2
  refine hK.out _ _ ?_; clear hK; clear K
  (try simp only [Act.put, List.setIfInBounds_toArray, List.set_cons_zero, List.set_cons_succ])
  refine seq_nil ?_
  clear hS c01 c11 d0 d1 d2
  have hmf : w.heap.size ∉ foot b mb ob := fun hk => by have := hflt _ hk; omega
  have hm2 := H2.out.2.keeps.heap HA.out.2.1 hmf
  have hh2 := H2.out.2.keeps.heap HA.out.2.2.2 hfo
  have hP2 := put_sess w2.drew b mb ob1 cs _ _ 4 1 ⟨#[47, 97]⟩ (H2.out.1.keep (S := []) (Keeps.refl _ _).drew (by simp)) (by simp) (by rw [hbm]; exact hf4.1) (by rw [hbm]; omega)
  have c02 : w2.drew.cell? ⟨hb, 0, none⟩ = some (.pointer (some ⟨b, 0, none⟩)) := cell_of_heap (w := w2) hh2 rfl
  have c12 : w2.drew.cell? ⟨w.heap.size, 2, none⟩ = some (.string ⟨#[47, 97]⟩) := cell_of_heap (w := w2) hm2 rfl
  have HM2 := Lib.hid (And.intro hm2 hh2)
  have hQ := Lib.hid hP2
  clear hm2 hh2 hP2
  go_upto_region 7 with fail
  have hS : (fun wx : World => wx.cell? ⟨hb, 0, none⟩ = some (.pointer (some ⟨b, 0, none⟩)) ∧ wx.cell? ⟨w.heap.size, 2, none⟩ = some (.string ⟨#[47, 97]⟩)) w2.drew := ⟨c02, c12⟩
  refine wp_region_seq (fun wx : World => wx.cell? ⟨hb, 0, none⟩ = some (.pointer (some ⟨b, 0, none⟩)) ∧ wx.cell? ⟨w.heap.size, 2, none⟩ = some (.string ⟨#[47, 97]⟩))
    [(0, 0), (1, 0), (2, 0), (3, 1), (4, 0), (5, 0), (6, 1), (7, 3)]
    [[7, 3], [7, 6]] (by kernel_rfl) (by kernel_rfl) (fun d _ _ _ _ h => by cases d <;> exact h) ?_
  simp only [picks, List.getD_cons_succ, List.getD_cons_zero]
  (refine seq_pure (v := ?_) (by rfl) ?_ ?_; rotate_left; focus (intro wq; first | (go_simp; done) | (go_simp; with_reducible rfl))); (try simp only [Act.put, List.setIfInBounds_toArray, List.set_cons_zero, List.set_cons_succ])
  (refine seq_pure (v := ?_) (by rfl) ?_ ?_; rotate_left; focus (intro wq; first | (go_simp; done) | (go_simp; with_reducible rfl))); (try simp only [Act.put, List.setIfInBounds_toArray, List.set_cons_zero, List.set_cons_succ])
  (refine seq_pure (v := ?_) (by rfl) ?_ ?_; rotate_left; focus (intro wq; first | (go_simp; done) | (go_simp; with_reducible rfl))); (try simp only [Act.put, List.setIfInBounds_toArray, List.set_cons_zero, List.set_cons_succ])
  (refine seq_read (v := ?_) hS (by rfl) ?_ ?_; rotate_left; focus (intro wq hSq; obtain ⟨hq1, hq2⟩ := hSq; first | (go_simp; done) | (go_simp; with_reducible rfl))); (try simp only [Act.put, List.setIfInBounds_toArray, List.set_cons_zero, List.set_cons_succ])
  (refine seq_pure (v := ?_) (by rfl) ?_ ?_; rotate_left; focus (intro wq; first | (go_simp; done) | (go_simp; with_reducible rfl))); (try simp only [Act.put, List.setIfInBounds_toArray, List.set_cons_zero, List.set_cons_succ])
  (refine seq_pure (v := ?_) (by rfl) ?_ ?_; rotate_left; focus (intro wq; first | (go_simp; done) | (go_simp; with_reducible rfl))); (try simp only [Act.put, List.setIfInBounds_toArray, List.set_cons_zero, List.set_cons_succ])
  (refine seq_read (v := ?_) hS (by rfl) ?_ ?_; rotate_left; focus (intro wq hSq; obtain ⟨hq1, hq2⟩ := hSq; first | (go_simp; done) | (go_simp; with_reducible rfl))); (try simp only [Act.put, List.setIfInBounds_toArray, List.set_cons_zero, List.set_cons_succ])
  refine seq_do (fun K hK => ?_)
  go_simp
  refine hQ.out.mono ?_
  rintro e w3 ⟨rfl, ob2, q1, q2⟩
  have H3 := Lib.hid (And.intro q1 q2)
  clear q1 q2
  refine hK.out _ _ ?_; clear hK; clear K
  (try simp only [Act.put, List.setIfInBounds_toArray, List.set_cons_zero, List.set_cons_succ])
  refine seq_nil ?_
  clear hS c02 c12
  have hgr1 : ∀ k ∈ foot b mb ob1, k ∈ foot b mb ob ∨ w.heap.size + 1 ≤ k := fun k hk => by
    have := H2.out.2.grow k hk
    rw [HA.out.2.2.1] at this
    exact this
  have hsz2 := H2.out.2.keeps.size
  rw [HA.out.2.2.1] at hsz2
  have hsz3 := H3.out.2.keeps.size
  rw [drew_size] at hsz3
  have hgr2 : ∀ k ∈ foot b mb ob2, k ∈ foot b mb ob ∨ w.heap.size + 1 ≤ k := fun k hk => by
    rcases H3.out.2.grow k hk with h | h
    · exact hgr1 k h
    · rw [drew_size] at h; right; omega
  have hfar1 : ∀ k, k ∉ foot b mb ob → k < w.heap.size + 1 → k ∉ foot b mb ob1 := fun k h1 h2 h3 => (hgr1 k h3).elim h1 (by omega)
  have hfar2 : ∀ k, k ∉ foot b mb ob → k < w.heap.size + 1 → k ∉ foot b mb ob2 := fun k h1 h2 h3 => (hgr2 k h3).elim h1 (by omega)
  have hm3 := H3.out.2.keeps.heap (k := w.heap.size) HM2.out.1 (hfar1 _ hmf (by omega))
  have hh3 := H3.out.2.keeps.heap (k := hb) HM2.out.2 (hfar1 _ hfo (by omega))
  have c23 : w3.cell? ⟨w.heap.size, 2, none⟩ = some (.string ⟨#[47, 97]⟩) := cell_of_heap hm3 rfl
  have c13 : w3.cell? ⟨w.heap.size, 1, none⟩ = some (.string ⟨#[71, 69, 84]⟩) := cell_of_heap hm3 rfl
  have c63 : w3.cell? ⟨hb, 6, none⟩ = some (.string ⟨#[]⟩) := cell_of_heap hh3 rfl
  have f63 : w3.frozen? ⟨hb, 6, none⟩ = false := free_of_heap hh3
  have hh4 : (w3.setCell ⟨hb, 6, none⟩ (.string ⟨#[97]⟩)).heap[hb]? = some (.cells (HttpCells b p1 p2 ⟨#[97]⟩ (.slice none 0 0)) 133 (0, 0)) := by rw [heap_setCell_self hh3]; rfl
  have hm4 : (w3.setCell ⟨hb, 6, none⟩ (.string ⟨#[97]⟩)).heap[w.heap.size]? = some (.cells #[.int .i64 1, .string ⟨#[71, 69, 84]⟩, .string ⟨#[47, 97]⟩] 267 (0, 0)) := by rw [heap_setCell_far (by simp; omega)]; exact hm3
  have hk4 : Keeps [hb] w3 (w3.setCell ⟨hb, 6, none⟩ (.string ⟨#[97]⟩)) := (Keeps.refl _ _).setCell (by simp) _
  have hz4 : (w3.setCell ⟨hb, 6, none⟩ (.string ⟨#[97]⟩)).heap.size = w3.heap.size := by simp [World.setCell]
  go_upto_region 9 with (go_at_call 333; refine (fileName_a _).mono ?_; rintro e w' ⟨rfl, rfl⟩)
  clear c23 c13 c63 f63 hm3 hh3
  revert hh4 hm4 hk4 hz4
  generalize hw4 : w3.setCell ⟨hb, 6, none⟩ (.string ⟨#[97]⟩) = w4
  intro hh4 hm4 hk4 hz4
  have c104 : w4.cell? ⟨hb, 10, none⟩ = some (.slice none 0 0) := cell_of_heap hh4 rfl
  have c64 : w4.cell? ⟨hb, 6, none⟩ = some (.string ⟨#[97]⟩) := cell_of_heap hh4 rfl
  have ha5 : Keeps [] w4 (w4.drew.alloc (.cells #[.string ⟨#[97]⟩] 9)) := (Keeps.refl _ _).drew.alloc _
  have H4 := Lib.hid (And.intro hh4 (And.intro hm4 (And.intro hk4 (And.intro hz4 ha5))))
  clear hh4 hm4 hk4 hz4
  have hS : (fun wx : World => wx.cell? ⟨hb, 10, none⟩ = some (.slice none 0 0) ∧ wx.cell? ⟨hb, 6, none⟩ = some (.string ⟨#[97]⟩)) w4.drew := ⟨c104, c64⟩
  refine wp_region_seq (fun wx : World => wx.cell? ⟨hb, 10, none⟩ = some (.slice none 0 0) ∧ wx.cell? ⟨hb, 6, none⟩ = some (.string ⟨#[97]⟩))
    [(0, 0), (1, 0), (2, 0), (3, 0), (4, 1), (5, 0), (6, 0), (7, 0), (8, 1), (9, 2), (10, 3), (11, 0), (12, 0), (13, 3)]
    [[10, 4], [10, 9, 8], [13, 4], [13, 8]] (by kernel_rfl) (by kernel_rfl) (fun d _ _ _ _ h => by cases d <;> exact h) ?_
  simp only [picks, List.getD_cons_succ, List.getD_cons_zero]
  (refine seq_pure (v := ?_) (by rfl) ?_ ?_; rotate_left; focus (intro wq; first | (go_simp; done) | (go_simp; with_reducible rfl))); (try simp only [Act.put, List.setIfInBounds_toArray, List.set_cons_zero, List.set_cons_succ])
  (refine seq_pure (v := ?_) (by rfl) ?_ ?_; rotate_left; focus (intro wq; first | (go_simp; done) | (go_simp; with_reducible rfl))); (try simp only [Act.put, List.setIfInBounds_toArray, List.set_cons_zero, List.set_cons_succ])
  (refine seq_pure (v := ?_) (by rfl) ?_ ?_; rotate_left; focus (intro wq; first | (go_simp; done) | (go_simp; with_reducible rfl))); (try simp only [Act.put, List.setIfInBounds_toArray, List.set_cons_zero, List.set_cons_succ])
  (refine seq_pure (v := ?_) (by rfl) ?_ ?_; rotate_left; focus (intro wq; first | (go_simp; done) | (go_simp; with_reducible rfl))); (try simp only [Act.put, List.setIfInBounds_toArray, List.set_cons_zero, List.set_cons_succ])
  (refine seq_read (v := ?_) hS (by rfl) ?_ ?_; rotate_left; focus (intro wq hSq; obtain ⟨hq1, hq2⟩ := hSq; first | (go_simp; done) | (go_simp; with_reducible rfl))); (try simp only [Act.put, List.setIfInBounds_toArray, List.set_cons_zero, List.set_cons_succ])
  (refine seq_pure (v := ?_) (by rfl) ?_ ?_; rotate_left; focus (intro wq; first | (go_simp; done) | (go_simp; with_reducible rfl))); (try simp only [Act.put, List.setIfInBounds_toArray, List.set_cons_zero, List.set_cons_succ])
  (refine seq_pure (v := ?_) (by rfl) ?_ ?_; rotate_left; focus (intro wq; first | (go_simp; done) | (go_simp; with_reducible rfl))); (try simp only [Act.put, List.setIfInBounds_toArray, List.set_cons_zero, List.set_cons_succ])
  (refine seq_pure (v := ?_) (by rfl) ?_ ?_; rotate_left; focus (intro wq; first | (go_simp; done) | (go_simp; with_reducible rfl))); (try simp only [Act.put, List.setIfInBounds_toArray, List.set_cons_zero, List.set_cons_succ])
  (refine seq_read (v := ?_) hS (by rfl) ?_ ?_; rotate_left; focus (intro wq hSq; obtain ⟨hq1, hq2⟩ := hSq; first | (go_simp; done) | (go_simp; with_reducible rfl))); (try simp only [Act.put, List.setIfInBounds_toArray, List.set_cons_zero, List.set_cons_succ])
  refine seq_act (fun K hK => ?_)
  go_simp
  have hS1 : (fun wx : World => wx.cell? ⟨hb, 10, none⟩ = some (.slice none 0 0) ∧ wx.cell? ⟨hb, 6, none⟩ = some (.string ⟨#[97]⟩)) (w4.drew.alloc (.cells #[.string ⟨#[97]⟩] 9)) := ⟨ha5.cell c104 (by simp), ha5.cell c64 (by simp)⟩
  refine hK.out _ _ hS1 ?_; clear hK; clear K
  (try simp only [Act.put, List.setIfInBounds_toArray, List.set_cons_zero, List.set_cons_succ])
  refine seq_do (fun K hK => ?_)
  refine step_append_lies _ (by rfl) _ _ _ (by rfl) 0 9 i0 _ 1 16 Tryz.underlying47 hi0 hz0 hz1 hz2 rfl (by omega) (.slice none 0 0) 0 [] (by rfl) (World.ownsRow_nil _ _ _ _) ⟨w4.heap.size, 0, none⟩ 1 1 [.string ⟨#[97]⟩] (by rfl) (by rfl) (World.news_of_block heap_alloc_self) (by simp [Value.oneCell']) (by omega) (by unfold maxLen; omega) (by omega) (by simp) (w4.heap.size + 1) (by simp) ?_
  intro gg cap w5 hown5 hgrow5 hat5 hlt5
  have hk5 : Keeps [] w4 w5 := ha5.grown hgrow5 (by simp [Value.ownBlock])
  have hh5 := hk5.heap H4.out.1 (by simp)
  have c105 : w5.cell? ⟨hb, 10, none⟩ = some (.slice none 0 0) := cell_of_heap hh5 rfl
  have f105 : w5.frozen? ⟨hb, 10, none⟩ = false := free_of_heap hh5
  clear hown5 hgrow5
  refine hK.out _ _ ?_; clear hK; clear K
  (try simp only [Act.put, List.setIfInBounds_toArray, List.set_cons_zero, List.set_cons_succ])
  (refine seq_pure (v := ?_) (by rfl) ?_ ?_; rotate_left; focus (intro wq; first | (go_simp; done) | (go_simp; with_reducible rfl))); (try simp only [Act.put, List.setIfInBounds_toArray, List.set_cons_zero, List.set_cons_succ])
  (refine seq_pure (v := ?_) (by rfl) ?_ ?_; rotate_left; focus (intro wq; first | (go_simp; done) | (go_simp; with_reducible rfl))); (try simp only [Act.put, List.setIfInBounds_toArray, List.set_cons_zero, List.set_cons_succ])
  refine seq_do (fun K hK => ?_)
  go_simp
  refine hK.out _ _ ?_; clear hK; clear K
  (try simp only [Act.put, List.setIfInBounds_toArray, List.set_cons_zero, List.set_cons_succ])
  refine seq_nil ?_
  clear hS hS1 c104 c64 c105 f105 ha5
  have hh6 : (w5.setCell ⟨hb, 10, none⟩ (.slice (some ⟨gg, 0, none⟩) (0 + 1) cap)).heap[hb]? = some (.cells (HttpCells b p1 p2 ⟨#[97]⟩ (.slice (some ⟨gg, 0, none⟩) (0 + 1) cap)) 133 (0, 0)) := by rw [heap_setCell_self hh5]; rfl
  have hk6 : Keeps [hb] w5 (w5.setCell ⟨hb, 10, none⟩ (.slice (some ⟨gg, 0, none⟩) (0 + 1) cap)) := (Keeps.refl _ _).setCell (by simp) _
  have hz5 := hk5.size
  have hz6 : (w5.setCell ⟨hb, 10, none⟩ (.slice (some ⟨gg, 0, none⟩) (0 + 1) cap)).heap.size = w5.heap.size := by simp [World.setCell]
  revert hh6 hk6 hz6
  generalize hw6 : w5.setCell ⟨hb, 10, none⟩ (.slice (some ⟨gg, 0, none⟩) (0 + 1) cap) = w6
  intro hh6 hk6 hz6
  have hm6 : w6.heap[w.heap.size]? = some (.cells #[.int .i64 1, .string ⟨#[71, 69, 84]⟩, .string ⟨#[47, 97]⟩] 267 (0, 0)) := hk6.heap (hk5.heap H4.out.2.1 (by simp)) (by simp; omega)
  have c76 : w6.cell? ⟨hb, 7, none⟩ = some (.pointer (some ⟨p2, 0, none⟩)) := cell_of_heap hh6 rfl
  have c16 : w6.cell? ⟨w.heap.size, 1, none⟩ = some (.string ⟨#[71, 69, 84]⟩) := cell_of_heap hm6 rfl
  have hk36 : Keeps [hb] w3 w6 := (H4.out.2.2.1.trans hk5 (by simp)).trans hk6 (by simp)
  have hk06 : Keeps ([hb, p2] ++ foot b mb ob) w w6 := by
    have k2 : Keeps ([hb, p2] ++ foot b mb ob) w w2 := (HA.out.1.mono (by simp)).trans H2.out.2.keeps (fun x hx _ => List.mem_append.2 (.inr hx))
    have k3 : Keeps ([hb, p2] ++ foot b mb ob) w w3 := k2.drew.trans H3.out.2.keeps (fun x hx hl => (hgr1 x hx).elim (fun h => List.mem_append.2 (.inr h)) (by omega))
    exact k3.trans hk36 (by simp)
  have hp6 : ParsAt w6 p2 none cs2 [] := ((H.out.1.keep HA.out.1 (by simp)).keep H2.out.2.keeps (by intro k hk; simp [footS] at hk; subst hk; exact hpo)).keep (S := foot b mb ob1) (w' := w3) (Keeps.trans (S := foot b mb ob1) (T := foot b mb ob1) (Keeps.refl _ w2).drew H3.out.2.keeps (fun _ h _ => h)) (by intro k hk; simp [footS] at hk; subst hk; exact hfar1 _ hpo (by omega)) |>.keep hk36 (by intro k hk; simp [footS] at hk; subst hk; simpa using hph)
  have hs6 : SessAt w6 b mb ob2 cs _ _ := H3.out.1.keep hk36 (fun k hk hh => by simp at hh; subst hh; exact hfar2 _ hfo (by omega) hk)
  have HE := Lib.hid (expect_first w6 p2 none cs2 [] ⟨#[71, 69, 84]⟩ hp6 H.out.2.1 H.out.2.2)
  have H6 := Lib.hid (And.intro hh6 (And.intro hk06 hs6))
  clear hh6 hk6 hm6 hk06 hp6 hs6 hk36 hk5 hh5 H H4 hP hQ
  go_wp2_with (go_at_call 334; refine HE.out.mono ?_; rintro e w7 ⟨rfl, pv, q1, q2⟩; have H7 := Lib.hid q2; clear q1 q2)
  have hk07 : Keeps ([hb, p2] ++ foot b mb ob) w w7 := H6.out.2.1.trans H7.out (by simp)
  have hs7 := H6.out.2.2.keep H7.out (fun k hk hh => by simp at hh; subst hh; exact hfar2 _ hpo (by omega) hk)
  have hh7 := H7.out.heap H6.out.1 (by simpa using Ne.symm hph)
  have hgk : g ∉ [hb, p2] ++ foot b mb ob := by simp; exact ⟨ho2, ho3, ho1⟩
  have e3 : w7.cell? ⟨g, 3, none⟩ = some (.int .i64 5) := hk07.cell HD.out.1 hgk
  have e4 : w7.cell? ⟨g, 4, none⟩ = some (.string ⟨#[]⟩) := hk07.cell HD.out.2.1 hgk
  have e5 : w7.cell? ⟨g, 5, none⟩ = some (.string ⟨#[]⟩) := hk07.cell HD.out.2.2 hgk
  have hk8 : Keeps [] w7 (w7.alloc (.cells #[.int .i64 5, .string ⟨#[]⟩, .string ⟨#[]⟩] 267)) := (Keeps.refl _ _).alloc _
  have e8 : (w7.alloc (.cells #[.int .i64 5, .string ⟨#[]⟩, .string ⟨#[]⟩] 267)).cell? ⟨hb, 5, none⟩ = some (.pointer none) := cell_of_heap (hk8.heap hh7 (by simp)) rfl
  have HR := Lib.hid (And.intro hk07 (And.intro hs7 hk8))
  clear hk07 hs7 hk8 hh7 H6 H7 HE
  rw [rounds_succ]
  go_wp2_with (go_at_call 330; refine (httpEnd_none _ hb _ e8).mono ?_; rintro e w8 ⟨rfl, rfl⟩)
  rw [rounds_succ]
  go_wp2_with fail
  go_end0
  refine ⟨rfl, ob2, ?_, HR.out.1.trans HR.out.2.2 (by simp), fun k hk => (hgr2 k hk).imp id (by omega)⟩
  have := HR.out.2.1.keep HR.out.2.2 (by simp)
  rw [hcut1, hcut2] at this
  exact this
end Go.Proofs.Sess
namespace Go.Proofs.Sess
open Go Go.RowKit

/-- http.feed of the first four bytes of a request. -/
def HttpFed4 (w : World) (pb sb : Nat) (cs : Array Value) (s : ByteArray) (e : Ending) (w' : World) : Prop :=
  e = .returned (.tuple #[]) ∧ ∃ ob', ParsAt w' pb none cs [] ∧ SplitAt w' sb ob' s.size false s ∧ Keeps [pb, sb] w w' ∧ (∀ k ∈ footS sb ob', k = sb ∨ w.heap.size ≤ k)

set_option maxRecDepth 100000 in
set_option maxHeartbeats 4000000 in
theorem httpFeed_4 (w : World) (b hb p1 p2 sb : Nat) (nm : ByteArray) (nms : Value) (cs : Array Value) (s : ByteArray) (hh : w.heap[hb]? = some (.cells (HttpCells b p1 p2 nm nms) 133 (0, 0)))
    (h : ParsAt w p1 none cs []) (h1 : cs[1]? = some (.pointer (some ⟨sb, 0, none⟩))) (h2 : cs[2]? = some (.int .i64 0)) (hsp : SplitAt w sb none 0 false ⟨#[]⟩) (hi : Lib.indexByte s.data.toList 10 = -1) (hs : s.size = 4) (hcr : (byt s (s.size - 1) == 13) = false) (hkp : keptS ⟨#[]⟩ s = s) (hpb : p1 ≠ sb) (t : Int) :
    Calls Tryz.prog 326 #[.pointer (some ⟨hb, 0, none⟩), .int .i64 t, .int .i64 1, .string s] w (HttpFed4 w p1 sb cs s) := by
  have c4 : w.cell? ⟨hb, 4, none⟩ = some (.pointer (some ⟨p1, 0, none⟩)) := cell_of_heap hh rfl
  have HM := Lib.hid (msgFeed_no w p1 sb none cs 0 false s ⟨#[]⟩ h h1 h2 hsp hi (by omega) (by decide) (by omega) (by simpa [footS] using hpb))
  clear h h1 h2 hsp hh
  go_enter Tryz.func326, Tryz.ntmps326
  go_wp2_with (first
    | (go_at_call 331; refine HM.out.mono ?_; rintro e w1 ⟨ob1, rfl, hq⟩; have H1 := Lib.hid hq; clear hq)
    | (go_at_call 328; refine (parts_nil _ hb 1 (by decide) (by decide) false).mono ?_; rintro e w2 ⟨rfl, rfl⟩))
  go_end0
  refine ⟨rfl, ob1, H1.out.1, ?_, H1.out.2.2.1.mono (by simp [footS]), fun k hk => ?_⟩
  · have := H1.out.2.1
    rw [hcr, hkp, Nat.zero_add] at this
    exact this
  · have := H1.out.2.2.2 k hk
    simpa [footS] using this

set_option maxRecDepth 100000 in
set_option maxHeartbeats 4000000 in
/-- http.feed of the rest of the GET. -/
theorem httpFeed_get (w : World) (b mb hb p1 p2 sb : Nat) (ob obs : Option Nat) (cs cs1 cs2 : Array Value) (f : Int → Int → Int) (em : Bool) (ct : Int) (co ln : Value)
    (h : SessAt w b mb ob cs f []) (hf3 : 0 ≤ f 3 1 ∧ f 3 1 < 1000) (hf4 : 0 ≤ f 4 1 ∧ f 4 1 < 1000) (hh : w.heap[hb]? = some (.cells (HttpCells b p1 p2 ⟨#[]⟩ (.slice none 0 0)) 133 (0, 0)))
    (hp1 : ParsAt w p1 none cs1 []) (k0 : cs1[0]? = some (.bool true)) (k1 : cs1[1]? = some (.pointer (some ⟨sb, 0, none⟩))) (k2 : cs1[2]? = some (.int .i64 0)) (k3 : cs1[3]? = some (.bool em)) (k8 : cs1[8]? = some (.bool false)) (k9 : cs1[9]? = some (.int .i64 ct)) (k12 : cs1[12]? = some co) (k13 : cs1[13]? = some ln)
    (hsp : SplitAt w sb obs 4 false ⟨#[71, 69, 84, 32]⟩) (hp : ParsAt w p2 none cs2 []) (g0 : cs2[0]? = some (.bool false)) (g4 : cs2[4]? = some (.slice none 0 0))
    (hfo : hb ∉ foot b mb ob) (hpo : p2 ∉ foot b mb ob) (hph : p2 ≠ hb) (hD : ∀ k ∈ [p1] ++ footS sb obs, k ∉ foot b mb ob ∧ k ≠ hb ∧ k ≠ p2) (hps : p1 ∉ footS sb obs) (t : Int) :
    Calls Tryz.prog 326 #[.pointer (some ⟨hb, 0, none⟩), .int .i64 t, .int .i64 1, .string ⟨#[47, 97, 32, 72, 84, 84, 80, 47, 49, 46, 49, 13, 10, 13, 10]⟩] w
      (fun e w' => e = .returned (.tuple #[]) ∧ ∃ ob', SessAt w' b mb ob' cs (bump (bump f 3 1) 4 1) ([⟨3, 1, f 3 1, ⟨#[71, 69, 84]⟩⟩] ++ [⟨4, 1, bump f 3 1 4 1, ⟨#[47, 97]⟩⟩]) ∧ Keeps (([hb, p2] ++ foot b mb ob) ++ ([p1] ++ footS sb obs)) w w') := by
  have c4 : w.cell? ⟨hb, 4, none⟩ = some (.pointer (some ⟨p1, 0, none⟩)) := cell_of_heap hh rfl
  have HM := Lib.hid (msgFeed_get w p1 sb obs cs1 em ct co ln hp1 k0 k1 k2 k3 k8 k9 k12 k13 hsp hps)
  have hflt := h.foot_lt
  have H := Lib.hid (And.intro h (And.intro hh (And.intro hp (And.intro g0 g4))))
  have HD := Lib.hid hD
  have HF := Lib.hid hfo
  have HP := Lib.hid hpo
  have hbl := lt_of_heap hh
  have hpl := hp.lt
  clear h hp1 k0 k1 k2 k3 k8 k9 k12 k13 hsp hh hp g0 g4 hD hfo hpo
  go_enter Tryz.func326, Tryz.ntmps326
  go_wp2_with (first
    | (go_at_call 331; refine HM.out.mono ?_; rintro e w1 ⟨v, rfl, q1, q2, q3⟩
       have hq := parts_get w1 b mb hb p1 p2 ob cs cs2 f v (H.out.1.keep q3 (fun k hk hh => (HD.out k hh).1 hk)) hf3 hf4 (q3.heap H.out.2.1 (fun hh => (HD.out _ hh).2.1 rfl)) (H.out.2.2.1.keep q3 (fun k hk hh => by simp [footS] at hk; subst hk; exact (HD.out _ hh).2.2 rfl)) H.out.2.2.2.1 H.out.2.2.2.2 q1 HF.out HP.out hph (fun g hg => by
         have hw := q2 g hg
         refine ⟨fun hk => by have := hflt g hk; omega, by omega, by omega⟩)
       have H1 := Lib.hid (And.intro hq q3)
       clear hq q1 q2 q3)
    | (go_at_call 328; refine H1.out.1.mono ?_; rintro e w2 ⟨rfl, ob', q1, q2, q3⟩; have H2 := Lib.hid (And.intro q1 q2); clear q1 q2 q3))
  go_end0
  refine ⟨rfl, ob', H2.out.1, (H1.out.2.mono (fun x hx _ => List.mem_append.2 (.inr hx))).trans H2.out.2 (fun x hx _ => List.mem_append.2 (.inl hx))⟩
end Go.Proofs.Sess
namespace Go.Proofs.Sess
open Go Go.RowKit

/-- The parsers of HTTP, new, in the block hb. -/
structure HttpFresh (w : World) (b hb : Nat) : Prop where
  hh : w.heap[hb]? = some (.cells (HttpCells b (hb + 3) (hb + 5) ⟨#[]⟩ (.slice none 0 0)) 133 (0, 0))
  s1 : SplitAt w (hb + 2) none 0 false ⟨#[]⟩
  p1 : ParsAt w (hb + 3) none (HttpMsg0 true (hb + 2)) []
  p2 : ParsAt w (hb + 5) none (HttpMsg0 false (hb + 4)) []

theorem HttpFresh.of_new {w w' : World} {b : Nat} {e : Ending} (h : HttpNew w b e w') : HttpFresh w' b w.heap.size := by
  obtain ⟨_, h0, h2, h3, h4, h5, hk⟩ := h
  exact ⟨h0, ⟨⟨_, h2, rfl, World.ownsRow_nil _ _ _ _⟩, by simp⟩, ⟨rfl, ⟨.slice none 0 0, h3, rfl, World.ownsRow_nil _ _ _ _⟩, by simp⟩, ⟨rfl, ⟨.slice none 0 0, h5, rfl, World.ownsRow_nil _ _ _ _⟩, by simp⟩⟩

theorem HttpFresh.keep {w w' : World} {b hb : Nat} (h : HttpFresh w b hb) {S : List Nat} (hk : Keeps S w w') (hS : ∀ k ∈ S, k < hb) : HttpFresh w' b hb := by
  refine ⟨hk.heap h.hh (fun hh => by have := hS _ hh; omega), h.s1.keep hk ?_, h.p1.keep hk ?_, h.p2.keep hk ?_⟩ <;>
  · intro k hk hh
    have := hS _ hh
    simp [footS] at hk
    omega

/-- begin, where the application is HTTP. -/
def BegunHttp (w : World) (b mb : Nat) (ob : Option Nat) (cs : Array Value) (f : Int → Int → Int) (l : List Buf) (e : Ending) (w' : World) : Prop :=
  e = .returned (.tuple #[]) ∧ SessAt w' b mb ob (cs.setIfInBounds 29 (.iface 126 (.pointer (some ⟨w.heap.size, 0, none⟩)))) f l ∧ HttpFresh w' b w.heap.size ∧ Keeps [b] w w'

set_option maxRecDepth 100000 in
set_option maxHeartbeats 1600000 in
theorem begin_http (w : World) (b mb : Nat) (ob : Option Nat) (cs : Array Value) (f : Int → Int → Int) (l : List Buf) (h : SessAt w b mb ob cs f l) (h0 : cs[0]? = some (.int .i64 6)) (h1 : cs[1]? = some (.int .i64 1)) (h29 : cs[29]? = some .nilIface) :
    Calls Tryz.prog 23 #[.pointer (some ⟨b, 0, none⟩)] w (BegunHttp w b mb ob cs f l) := by
  have c0 := h.cell (by decide) h0
  have c1 := h.cell (by decide) h1
  have hbl := h.lt
  have H := Lib.hid h
  have H29 := Lib.hid h29
  clear h h0 h1 h29
  go_enter Tryz.func23, Tryz.ntmps23
  go_wp2_with (go_at_call 40; refine (newHttp_any _ b).mono ?_; rintro e w1 hq
               have he := hq.1
               subst he
               have hs1 := H.out.keep hq.2.2.2.2.2.2 (by simp)
               have c29 := hs1.cell (o := 29) (by decide) H29.out
               have f29 := hs1.free 29
               have H1 := Lib.hid (And.intro hs1 hq)
               clear hs1 hq)
  go_end0
  exact ⟨rfl, H1.out.1.store (by decide) (by decide) _, (HttpFresh.of_new H1.out.2).keep ((Keeps.refl [b] w1).setCell (by simp) _) (by simpa using hbl), (H1.out.2.2.2.2.2.2.2.mono (by simp)).trans ((Keeps.refl [b] w1).setCell (by simp) _) (by simp)⟩

/-- The interface's method feed, at the parsers of HTTP. -/
theorem method_feed_http (x : Value) (w : World) : (method 844 126 x "intrusion/session.feed").run Tryz.prog w = .ok (326, x) w := by kernel_rfl
theorem callFunc_326 (args : Array Value) (w : World) : (callFunc 326 args).run Tryz.prog w = .ok (.enter 326 args) w := by kernel_rfl

set_option maxRecDepth 100000 in
set_option maxHeartbeats 8000000 in
theorem recognize_get (w : World) (b mb : Nat) (ob : Option Nat) (cs : Array Value) (f : Int → Int → Int) (a1 : Int)
    (h : SessAt w b mb ob cs f []) (hf3 : 0 ≤ f 3 1 ∧ f 3 1 < 1000) (hf4 : 0 ≤ f 4 1 ∧ f 4 1 < 1000) (h0 : cs[0]? = some (.int .i64 6)) (h1 : cs[1]? = some (.int .i64 a1)) (h2 : cs[2]? = some (.bool false)) (h20 : cs[20]? = some (.string ⟨#[71, 69, 84, 32, 47, 97, 32, 72, 84, 84, 80, 47, 49, 46, 49, 13, 10, 13, 10]⟩)) (h25 : cs[25]? = some (.string ⟨#[]⟩)) (h21 : cs[21]? = some (.bool false)) (h22 : cs[22]? = some (.bool false)) (h26 : cs[26]? = some (.bool false)) (h27 : cs[27]? = some (.bool false)) (h23 : cs[23]? = some (.bool false)) (h28 : cs[28]? = some (.bool false)) (h29 : cs[29]? = some .nilIface) :
    Calls Tryz.prog 34 #[.pointer (some ⟨b, 0, none⟩), .int .i64 0, .int .i64 1, .bool false] w fun e w' => e = .returned (.tuple #[]) ∧ ∃ ob' cs', SessAt w' b mb ob' cs' (bump (bump f 3 1) 4 1) ([⟨3, 1, f 3 1, ⟨#[71, 69, 84]⟩⟩] ++ [⟨4, 1, bump f 3 1 4 1, ⟨#[47, 97]⟩⟩]) ∧ cs'[1]? = some (.int .i64 1) ∧ Keeps (foot b mb ob) w w' := by
  have hT := toList_mk
  have hX1 : (ByteArray.mk #[71, 69, 84, 32, 47, 97, 32, 72, 84, 84, 80, 47, 49, 46, 49, 13, 10, 13, 10]).extract 0 4 = ⟨#[71, 69, 84, 32]⟩ := by rfl
  have hX2 : (ByteArray.mk #[71, 69, 84, 32, 47, 97, 32, 72, 84, 84, 80, 47, 49, 46, 49, 13, 10, 13, 10]).extract 4 19 = ⟨#[47, 97, 32, 72, 84, 84, 80, 47, 49, 46, 49, 13, 10, 13, 10]⟩ := by rfl
  have c1 := h.cell (by decide) h1
  have c2 := h.cell (by decide) h2
  have c20 := h.cell (by decide) h20
  have f1 := h.free 1
  have f2 := h.free 2
  have hbl := h.lt
  have hcz := h.size
  have hflt := h.foot_lt
  have hzw : ((w.setCell ⟨b, 1, none⟩ (.int .i64 1)).setCell ⟨b, 2, none⟩ (.bool true)).heap.size = w.heap.size := by simp [World.setCell]
  have hs1 := (h.store (o := 1) (by decide) (by decide) (.int .i64 1)).store (o := 2) (by decide) (by decide) (.bool true)
  have hk1 : Keeps [b] w ((w.setCell ⟨b, 1, none⟩ (.int .i64 1)).setCell ⟨b, 2, none⟩ (.bool true)) := ((Keeps.refl _ _).setCell (by simp) _).setCell (by simp) _
  have hB := begin_http _ b mb ob _ f [] hs1 (by rw [Array.getElem?_setIfInBounds_ne (by decide), Array.getElem?_setIfInBounds_ne (by decide)]; exact h0) (by rw [Array.getElem?_setIfInBounds_ne (by decide), Array.getElem?_setIfInBounds_self_of_lt (by omega)]) (by rw [Array.getElem?_setIfInBounds_ne (by decide), Array.getElem?_setIfInBounds_ne (by decide)]; exact h29)
  have HB := Lib.hid hB
  have HK1 := Lib.hid hk1
  have far : ∀ (o : Nat) (v : Value), o ≠ 1 → o ≠ 2 → o ≠ 29 → cs[o]? = some v → (((cs.setIfInBounds 1 (.int .i64 1)).setIfInBounds 2 (.bool true)).setIfInBounds 29 (.iface 126 (.pointer (some ⟨((w.setCell ⟨b, 1, none⟩ (.int .i64 1)).setCell ⟨b, 2, none⟩ (.bool true)).heap.size, 0, none⟩))))[o]? = some v := fun o v h1 h2 h3 hv => by
    rw [Array.getElem?_setIfInBounds_ne (Ne.symm h3), Array.getElem?_setIfInBounds_ne (Ne.symm h2), Array.getElem?_setIfInBounds_ne (Ne.symm h1)]; exact hv
  have HF := Lib.hid far
  have HC := Lib.hid (And.intro h20 (And.intro h21 (And.intro h22 (And.intro h23 (And.intro h25 (And.intro h26 (And.intro h27 h28)))))))
  clear h h0 h1 h2 h20 h21 h22 h23 h25 h26 h27 h28 h29 hs1 hk1 hB far
  go_enter Tryz.func34, Tryz.ntmps34
  go_upto_region 6 with (first
    | (go_at_call 56; refine (appOf_get _).mono ?_; rintro e w1 ⟨rfl, rfl⟩)
    | (go_at_call 23; refine HB.out.mono ?_; rintro e w1 ⟨rfl, q1, q2, q3⟩; have H1 := Lib.hid (And.intro q1 (And.intro q2 q3)); clear q1 q2 q3))
  have cc : ∀ {o : Nat} {v : Value}, o ≠ 30 → o ≠ 1 → o ≠ 2 → o ≠ 29 → cs[o]? = some v → w1.cell? ⟨b, o, none⟩ = some v := fun h0 h1 h2 h3 hv => H1.out.1.cell h0 (HF.out _ _ h1 h2 h3 hv)
  have e1 : w1.cell? ⟨b, 1, none⟩ = some (.int .i64 1) := H1.out.1.cell (by decide) (by rw [Array.getElem?_setIfInBounds_ne (by decide), Array.getElem?_setIfInBounds_ne (by decide), Array.getElem?_setIfInBounds_self_of_lt (by omega)])
  have e29 : w1.cell? ⟨b, 29, none⟩ = some (.iface 126 (.pointer (some ⟨w.heap.size, 0, none⟩))) := H1.out.1.cell (by decide) (by rw [Array.getElem?_setIfInBounds_self_of_lt (by simp only [Array.size_setIfInBounds]; omega)]; simp [World.setCell])
  have e20 := cc (by decide) (by decide) (by decide) (by decide) HC.out.1
  have e21 := cc (by decide) (by decide) (by decide) (by decide) HC.out.2.1
  have e22 := cc (by decide) (by decide) (by decide) (by decide) HC.out.2.2.1
  have e23 := cc (by decide) (by decide) (by decide) (by decide) HC.out.2.2.2.1
  have e25 := cc (by decide) (by decide) (by decide) (by decide) HC.out.2.2.2.2.1
  have e26 := cc (by decide) (by decide) (by decide) (by decide) HC.out.2.2.2.2.2.1
  have e27 := cc (by decide) (by decide) (by decide) (by decide) HC.out.2.2.2.2.2.2.1
  have e28 := cc (by decide) (by decide) (by decide) (by decide) HC.out.2.2.2.2.2.2.2
  have g20 := H1.out.1.free 20
  have g25 := H1.out.1.free 25
  have hbl1 := H1.out.1.lt
  clear cc c1 c2 c20 f1 f2
  go_wp2_with fail
  refine wp_loop_rounds 3 ?_
  rw [rounds_succ]
  go_wp2_with fail
  rw [rounds_succ]
  go_wp2_with fail
  rw [rounds_succ]
  go_wp2_with fail
  refine wp_loop_rounds 3 ?_
  rw [rounds_succ]
  go_wp2_with fail
  clear e20 e21 e22 e23 e25 e26 e27 e28
  refine wp_region_seq (fun _ => True)
    [(0, 0), (1, 0), (2, 0), (3, 0), (4, 0), (5, 0)]
    [] (by kernel_rfl) (by kernel_rfl) (fun d _ _ _ _ h => by cases d <;> exact h) ?_
  simp only [picks, List.getD_cons_succ, List.getD_cons_zero]
  (refine seq_pure (v := ?_) (by rfl) ?_ ?_; rotate_left; focus (intro wq; first | (go_simp; done) | (go_simp; with_reducible rfl))); (try simp only [Act.put, List.setIfInBounds_toArray, List.set_cons_zero, List.set_cons_succ])
  (refine seq_pure (v := ?_) (by rfl) ?_ ?_; rotate_left; focus (intro wq; first | (go_simp; done) | (go_simp; with_reducible rfl))); (try simp only [Act.put, List.setIfInBounds_toArray, List.set_cons_zero, List.set_cons_succ])
  (refine seq_pure (v := ?_) (by rfl) ?_ ?_; rotate_left; focus (intro wq; first | (go_simp; done) | (go_simp; with_reducible rfl))); (try simp only [Act.put, List.setIfInBounds_toArray, List.set_cons_zero, List.set_cons_succ])
  (refine seq_pure (v := ?_) (by rfl) ?_ ?_; rotate_left; focus (intro wq; first | (go_simp; done) | (go_simp; with_reducible rfl))); (try simp only [Act.put, List.setIfInBounds_toArray, List.set_cons_zero, List.set_cons_succ])
  (refine seq_pure (v := ?_) (by rfl) ?_ ?_; rotate_left; focus (intro wq; first | (go_simp; done) | (go_simp; with_reducible rfl))); (try simp only [Act.put, List.setIfInBounds_toArray, List.set_cons_zero, List.set_cons_succ])
  (refine seq_pure (v := ?_) (by rfl) ?_ ?_; rotate_left; focus (intro wq; first | (go_simp; done) | (go_simp; with_reducible rfl))); (try simp only [Act.put, List.setIfInBounds_toArray, List.set_cons_zero, List.set_cons_succ])
  refine seq_nil ?_
  go_wp2_with fail
  have hq := H1.out
  rw [hzw] at hq
  obtain ⟨q1, q2, q3⟩ := hq
  clear H1
  have hk0 : Keeps [b] w1 ((((w1.setCell ⟨b, 20, none⟩ (.string ⟨#[]⟩)).alloc (.cells #[.int .i64 1, .int .i64 2] 3)).alloc (.cells #[.int .i64 1, .int .i64 2] 3)).drew) := ((((Keeps.refl _ _).setCell (by simp) _).alloc _).alloc _).drew
  have hs0 : SessAt ((((w1.setCell ⟨b, 20, none⟩ (.string ⟨#[]⟩)).alloc (.cells #[.int .i64 1, .int .i64 2] 3)).alloc (.cells #[.int .i64 1, .int .i64 2] 3)).drew) b mb ob _ f [] := (q1.store (o := 20) (by decide) (by decide) (.string ⟨#[]⟩)).keep (((Keeps.refl [] _).alloc _).alloc _).drew (by simp)
  have HK2 := Lib.hid (q3.trans (T := [b]) hk0 (fun _ h _ => h))
  have hfr := q2.keep hk0 (by simpa using hbl)
  have hz1 : w.heap.size + 6 ≤ w1.heap.size := by
    obtain ⟨v, h1, _, _⟩ := q2.p2.own
    have := lt_of_heap h1
    omega
  have hzs : (w1.setCell ⟨b, 20, none⟩ (.string ⟨#[]⟩)).heap.size = w1.heap.size := by simp [World.setCell]
  have ha : ((((w1.setCell ⟨b, 20, none⟩ (.string ⟨#[]⟩)).alloc (.cells #[.int .i64 1, .int .i64 2] 3)).alloc (.cells #[.int .i64 1, .int .i64 2] 3)).drew).heap[w1.heap.size + 1]? = some (.cells #[.int .i64 1, .int .i64 2] 3 (0, 0)) := by
    rw [drew_get, alloc_get, if_pos (by rw [alloc_size, hzs])]
  rw [method_feed_http, Result.andThen_ok, callFunc_326, Oper.upon_enter]
  refine (httpFeed_4 _ b w.heap.size (w.heap.size + 3) (w.heap.size + 5) (w.heap.size + 2) ⟨#[]⟩ _ _ ⟨#[71, 69, 84, 32]⟩ hfr.hh hfr.p1 rfl rfl hfr.s1 (by rfl) (by rfl) (by rfl) (by rfl) (by omega) 0).mono ?_
  rintro e w2 ⟨rfl, obs, r1, r2, r3, r4⟩
  have hnf : ∀ k ∈ foot b mb ob, k ∉ [w.heap.size + 3, w.heap.size + 2] := fun k hk hh => by
    have := hflt k hk
    simp at hh
    omega
  have hs2 := hs0.keep r3 hnf
  have ha2 := r3.heap ha (by simp; omega)
  have cc : ∀ {o : Nat} {v : Value}, o ≠ 30 → o ≠ 1 → o ≠ 2 → o ≠ 29 → o ≠ 20 → cs[o]? = some v → w2.cell? ⟨b, o, none⟩ = some v := fun h0 h1 h2 h3 h4 hv => hs2.cell h0 (by rw [Array.getElem?_setIfInBounds_ne (Ne.symm h4)]; have := HF.out _ _ h1 h2 h3 hv; rw [hzw] at this; exact this)
  have e29 : w2.cell? ⟨b, 29, none⟩ = some (.iface 126 (.pointer (some ⟨w.heap.size, 0, none⟩))) := hs2.cell (by decide) (by rw [Array.getElem?_setIfInBounds_ne (by decide), Array.getElem?_setIfInBounds_self_of_lt (by simp only [Array.size_setIfInBounds]; omega)])
  have e21 := cc (by decide) (by decide) (by decide) (by decide) (by decide) HC.out.2.1
  have e22 := cc (by decide) (by decide) (by decide) (by decide) (by decide) HC.out.2.2.1
  have e25 := cc (by decide) (by decide) (by decide) (by decide) (by decide) HC.out.2.2.2.2.1
  have e26 := cc (by decide) (by decide) (by decide) (by decide) (by decide) HC.out.2.2.2.2.2.1
  have e27 := cc (by decide) (by decide) (by decide) (by decide) (by decide) HC.out.2.2.2.2.2.2.1
  have g25 := hs2.free 25
  have d1 : w2.cell? ⟨w1.heap.size + 1, 1, none⟩ = some (.int .i64 2) := cell_of_heap ha2 rfl
  have hfr2 : HttpFresh ((((w1.setCell ⟨b, 20, none⟩ (.string ⟨#[]⟩)).alloc (.cells #[.int .i64 1, .int .i64 2] 3)).alloc (.cells #[.int .i64 1, .int .i64 2] 3)).drew) b w.heap.size := hfr
  have H2 := Lib.hid (And.intro r1 (And.intro r2 (And.intro r3 (And.intro r4 (And.intro hs2 hfr)))))
  clear cc q1 q2 q3 hk0 hs0 hfr hfr2 ha ha2 r1 r2 r3 r4 hs2
  go_wp2_with fail
  rw [rounds_succ]
  go_wp2_with fail
  rw [rounds_succ]
  go_wp2_with fail
  rw [method_feed_http, Result.andThen_ok, callFunc_326, Oper.upon_enter]
  have hk3 : Keeps [b] w2 (w2.setCell ⟨b, 25, none⟩ (.string ⟨#[]⟩)) := (Keeps.refl _ _).setCell (by simp) _
  have hs3 := H2.out.2.2.2.2.1.store (o := 25) (by decide) (by decide) (.string ⟨#[]⟩)
  have hsu : ∀ k ∈ footS (w.heap.size + 2) obs, k ∉ foot b mb ob ∧ k ≠ w.heap.size ∧ k ≠ w.heap.size + 5 ∧ k ≠ w.heap.size + 3 := fun k hk => by
    rcases H2.out.2.2.2.1 k hk with h | h
    · exact ⟨fun hh => by have := hflt k hh; omega, by omega, by omega, by omega⟩
    · rw [drew_size, alloc_size, alloc_size, hzs] at h
      exact ⟨fun hh => by have := hflt k hh; omega, by omega, by omega, by omega⟩
  have hbb : b ∈ foot b mb ob := by simp [foot]
  have hbn : ∀ k, b ≠ w.heap.size + k := fun k => by omega
  refine (httpFeed_get _ b mb w.heap.size (w.heap.size + 3) (w.heap.size + 5) (w.heap.size + 2) ob obs _ (HttpMsg0 true (w.heap.size + 2)) (HttpMsg0 false (w.heap.size + 4)) f false 0 _ _ hs3 hf3 hf4
    (hk3.heap (H2.out.2.2.1.heap H2.out.2.2.2.2.2.hh (by simp)) (by simp; omega)) (H2.out.1.keep hk3 (by simp [footS]; omega)) rfl rfl rfl rfl rfl rfl rfl rfl (H2.out.2.1.keep hk3 (fun k hk hh => by simp at hh; subst hh; exact (hsu _ hk).1 hbb))
    ((H2.out.2.2.2.2.2.p2.keep H2.out.2.2.1 (by simp [footS])).keep hk3 (by simp [footS]; omega)) rfl rfl (fun hh => by have := hflt _ hh; omega) (fun hh => by have := hflt _ hh; omega) (by omega)
    (fun k hk => by
      rcases List.mem_append.1 hk with h | h
      · simp at h; subst h; exact ⟨fun hh => by have := hflt _ hh; omega, by omega, by omega⟩
      · exact ⟨(hsu k h).1, (hsu k h).2.1, (hsu k h).2.2.1⟩) (fun hh => (hsu _ hh).2.2.2 rfl) 0).mono ?_
  rintro e w3 ⟨rfl, ob3, t1, t2⟩
  have hkw : Keeps (foot b mb ob) w w2 := ((HK1.out.mono (T := foot b mb ob) (by intro x hx _; simp at hx; subst hx; exact hbb)).trans HK2.out (by intro x hx _; simp at hx; subst hx; exact hbb)).trans H2.out.2.2.1 (by intro x hx hl; simp at hx; omega)
  have hkx : Keeps (foot b mb ob) w w3 := (hkw.trans hk3 (by intro x hx _; simp at hx; subst hx; exact hbb)).trans t2 (by
    intro x hx hl
    rcases List.mem_append.1 hx with hx | hx
    · rcases List.mem_append.1 hx with hx | hx
      · simp at hx; omega
      · exact hx
    · rcases List.mem_append.1 hx with hx | hx
      · simp at hx; omega
      · rcases H2.out.2.2.2.1 x hx with h | h
        · omega
        · rw [drew_size, alloc_size, alloc_size, hzs] at h; omega)
  have H3 := Lib.hid (And.intro t1 hkx)
  clear t1 t2 hs3 hk3 H2 hkw hkx
  go_wp2_with fail
  go_end0
  refine ⟨rfl, ob3, _, H3.out.1, ?_, H3.out.2⟩
  rw [Array.getElem?_setIfInBounds_ne (by decide), Array.getElem?_setIfInBounds_ne (by decide), Array.getElem?_setIfInBounds_ne (by decide), Array.getElem?_setIfInBounds_ne (by decide), Array.getElem?_setIfInBounds_self_of_lt (by omega)]
end Go.Proofs.Sess
namespace Go.Proofs.Sess
open Go Go.RowKit

/-- A row of buffers, as it is read: its cells. -/
theorem bufs_read {w : World} {v : Value} {bs : List Buf} (hv : w.ownsRow 0 39 4 v bs.length (bufsV bs)) :
    ∃ a cap, v = .slice a bs.length cap ∧ ∀ k, k < bs.length → ∃ g, a = some ⟨g, 0, none⟩ ∧ v.ownBlock = some g ∧ ∀ x, bs[k]? = some x → w.cell? ⟨g, k * 4, none⟩ = some (.int .i64 x.kind) ∧ w.cell? ⟨g, k * 4 + 1, none⟩ = some (.int .i64 x.dir) ∧ w.cell? ⟨g, k * 4 + 2, none⟩ = some (.int .i64 x.idx) ∧ w.cell? ⟨g, k * 4 + 3, none⟩ = some (.string x.data) := by
  rcases hv.2 with ⟨hvn, hn0⟩ | ⟨g, cap, cur, hvs, _⟩
  · exact ⟨none, 0, by rw [hvn, hn0], fun k hk => by omega⟩
  · subst hvs
    exact ⟨_, _, rfl, fun k hk => ⟨g, rfl, rfl, fun x hx => row_cells hv (g := g) rfl hx⟩⟩

set_option maxRecDepth 100000 in
set_option maxHeartbeats 4000000 in
/-- Two rows of the same buffers are the same. -/
theorem same_eq (w : World) (va vb : Value) (bs : List Buf) (ha : w.ownsRow 0 39 4 va bs.length (bufsV bs)) (hb : w.ownsRow 0 39 4 vb bs.length (bufsV bs)) (hn : bs.length < 1000000) :
    Calls Tryz.prog 20 #[va, vb] w fun e w' => e = .returned (.bool true) ∧ Keeps [] w w' := by
  obtain ⟨a1, c1, rfl, HA⟩ := bufs_read ha
  obtain ⟨a2, c2, rfl, HB⟩ := bufs_read hb
  have HAH := Lib.hid HA
  have HBH := Lib.hid HB
  clear ha hb HA HB
  go_enter Tryz.func20, Tryz.ntmps20
  go_wp2_with fail
  go_loopw [5] (fun i wr => ∃ k : Nat, k ≤ bs.length ∧ i = .int .i64 k ∧ Keeps [] w wr) (fun i _ => bs.length - (intOf i).toNat)
  case atStart => exact ⟨0, Nat.zero_le _, rfl, Keeps.refl _ _⟩
  case round =>
    obtain ⟨k, hk, rfl, hrel⟩ := hrel
    by_cases hlt : k < bs.length
    · obtain ⟨ga, rfl, _, hca⟩ := HAH.out k hlt
      obtain ⟨gb, rfl, _, hcb⟩ := HBH.out k hlt
      have hx : bs[k]? = some bs[k] := List.getElem?_eq_getElem hlt
      revert hx
      generalize bs[k] = x
      intro hx
      obtain ⟨p0, p1, p2, p3⟩ := hca x hx
      obtain ⟨q0, q1, q2, q3⟩ := hcb x hx
      have hS : (fun wx : World => (wx.cell? ⟨ga, k * 4, none⟩ = some (.int .i64 x.kind) ∧ wx.cell? ⟨ga, k * 4 + 1, none⟩ = some (.int .i64 x.dir) ∧ wx.cell? ⟨ga, k * 4 + 2, none⟩ = some (.int .i64 x.idx) ∧ wx.cell? ⟨ga, k * 4 + 3, none⟩ = some (.string x.data)) ∧ (wx.cell? ⟨gb, k * 4, none⟩ = some (.int .i64 x.kind) ∧ wx.cell? ⟨gb, k * 4 + 1, none⟩ = some (.int .i64 x.dir) ∧ wx.cell? ⟨gb, k * 4 + 2, none⟩ = some (.int .i64 x.idx) ∧ wx.cell? ⟨gb, k * 4 + 3, none⟩ = some (.string x.data))) wr.drew := ⟨⟨hrel.drew.cell p0 (by simp), hrel.drew.cell p1 (by simp), hrel.drew.cell p2 (by simp), hrel.drew.cell p3 (by simp)⟩, ⟨hrel.drew.cell q0 (by simp), hrel.drew.cell q1 (by simp), hrel.drew.cell q2 (by simp), hrel.drew.cell q3 (by simp)⟩⟩
      have HR := Lib.hid hrel
      clear p0 p1 p2 p3 q0 q1 q2 q3 hca hcb hrel
      go_upto_region 6 with fail
      refine wp_region_seq (fun wx : World => (wx.cell? ⟨ga, k * 4, none⟩ = some (.int .i64 x.kind) ∧ wx.cell? ⟨ga, k * 4 + 1, none⟩ = some (.int .i64 x.dir) ∧ wx.cell? ⟨ga, k * 4 + 2, none⟩ = some (.int .i64 x.idx) ∧ wx.cell? ⟨ga, k * 4 + 3, none⟩ = some (.string x.data)) ∧ (wx.cell? ⟨gb, k * 4, none⟩ = some (.int .i64 x.kind) ∧ wx.cell? ⟨gb, k * 4 + 1, none⟩ = some (.int .i64 x.dir) ∧ wx.cell? ⟨gb, k * 4 + 2, none⟩ = some (.int .i64 x.idx) ∧ wx.cell? ⟨gb, k * 4 + 3, none⟩ = some (.string x.data)))
        [(0, 0), (1, 0), (2, 0), (3, 1), (4, 0), (5, 0), (6, 0), (7, 1), (8, 0)]
        [] (by kernel_rfl) (by kernel_rfl) (fun d _ _ _ _ h => by cases d <;> exact h) ?_
      simp only [picks, List.getD_cons_succ, List.getD_cons_zero]
      (refine seq_pure (v := ?_) (by rfl) ?_ ?_; rotate_left; focus (intro wq; first | (go_simp; done) | (go_simp; with_reducible rfl))); (try simp only [Act.put, List.setIfInBounds_toArray, List.set_cons_zero, List.set_cons_succ])
      (refine seq_pure (v := ?_) (by rfl) ?_ ?_; rotate_left; focus (intro wq; first | (go_simp; done) | (go_simp; with_reducible rfl))); (try simp only [Act.put, List.setIfInBounds_toArray, List.set_cons_zero, List.set_cons_succ])
      (refine seq_pure (v := ?_) (by rfl) ?_ ?_; rotate_left; focus (intro wq; first | (go_simp; done) | (go_simp; with_reducible rfl))); (try simp only [Act.put, List.setIfInBounds_toArray, List.set_cons_zero, List.set_cons_succ])
      (refine seq_read (v := ?_) hS (by rfl) ?_ ?_; rotate_left; focus (intro wq hSq; obtain ⟨⟨hq1, hq2, hq3, hq4⟩, ⟨hq5, hq6, hq7, hq8⟩⟩ := hSq; first | (go_simp; done) | (go_simp; with_reducible rfl))); (try simp only [Act.put, List.setIfInBounds_toArray, List.set_cons_zero, List.set_cons_succ])
      (refine seq_pure (v := ?_) (by rfl) ?_ ?_; rotate_left; focus (intro wq; first | (go_simp; done) | (go_simp; with_reducible rfl))); (try simp only [Act.put, List.setIfInBounds_toArray, List.set_cons_zero, List.set_cons_succ])
      (refine seq_pure (v := ?_) (by rfl) ?_ ?_; rotate_left; focus (intro wq; first | (go_simp; done) | (go_simp; with_reducible rfl))); (try simp only [Act.put, List.setIfInBounds_toArray, List.set_cons_zero, List.set_cons_succ])
      (refine seq_pure (v := ?_) (by rfl) ?_ ?_; rotate_left; focus (intro wq; first | (go_simp; done) | (go_simp; with_reducible rfl))); (try simp only [Act.put, List.setIfInBounds_toArray, List.set_cons_zero, List.set_cons_succ])
      (refine seq_read (v := ?_) hS (by rfl) ?_ ?_; rotate_left; focus (intro wq hSq; obtain ⟨⟨hq1, hq2, hq3, hq4⟩, ⟨hq5, hq6, hq7, hq8⟩⟩ := hSq; first | (go_simp; done) | (go_simp; with_reducible rfl))); (try simp only [Act.put, List.setIfInBounds_toArray, List.set_cons_zero, List.set_cons_succ])
      (refine seq_pure (v := ?_) (by rfl) ?_ ?_; rotate_left; focus (intro wq; first | (go_simp; done) | (go_simp; with_reducible rfl))); (try simp only [Act.put, List.setIfInBounds_toArray, List.set_cons_zero, List.set_cons_succ])
      refine seq_nil ?_
      clear hS
      go_wp2_with fail
      go_roundw
      case rel => exact ⟨k + 1, by omega, by go_num, HR.out.drew⟩
      case measure => simp [intOf]; omega
    · have hkn : k = bs.length := by omega
      subst hkn
      have HR := Lib.hid hrel
      clear hrel
      go_wp2_with fail
      go_ret
      exact ⟨rfl, HR.out⟩
end Go.Proofs.Sess
namespace Go.Proofs.Sess
open Go Go.RowKit

/-- A row that lies whole in a block of its own. -/
theorem own_of_block {w : World} {g n : Nat} {e : TypeId} {size : Nat} {cur : Array Value} {xs : List Value} (h : w.heap[g]? = some (.cells cur e (0, 0))) (hx : cur.toList = xs) (hl : xs.length = n * size) (hn : n ≤ maxLen) :
    w.ownsRow 0 e size (.slice (some ⟨g, 0, none⟩) n n) n xs := by
  refine ⟨hl, .inr ⟨g, n, cur, rfl, Nat.zero_le _, h, Nat.le_refl _, hn, ?_, ?_⟩⟩
  · rw [← hl, ← hx]; simp
  · rw [hx, ← hl]; exact List.take_length

def zeroF : Int → Int → Int := fun _ _ => 0
def bufsGet : List Buf := [⟨3, 1, 0, ⟨#[71, 69, 84]⟩⟩, ⟨4, 1, 0, ⟨#[47, 97]⟩⟩]
def bufsAbcd : List Buf := [⟨1, 1, 0, ⟨#[97, 98, 99, 100]⟩⟩]

theorem cntLe_zero : CntLe (fun _ _ => 0) 0 := fun _ _ => ⟨Int.le_refl _, Int.le_refl _⟩

/-- What Feed gives to a session that has become HTTP. -/
def FedGet (w : World) (b mb wb : Nat) (v : Value) (w' : World) : Prop :=
  ∃ cs' f', SessAt w' b mb none cs' f' [] ∧ cs'[1]? = some (.int .i64 1) ∧ w'.ownsRow 0 39 4 v 2 (bufsV bufsGet) ∧ Keeps [b, mb, wb] w w'

theorem feed_get (w : World) (b mb w1 w2 : Nat) (b1 b2 : Int) (h : SessAt w b mb none (SessCells0 6 b1 b2 mb w1 w2) (fun _ _ => 0) []) (hw : w.heap[w1]? = some (WinObj 1 1 0 0 (.slice none 0 0))) (hwb : w1 ≠ b) (hwm : w1 ≠ mb) :
    Calls Tryz.prog 17 #[.pointer (some ⟨b, 0, none⟩), .int .i64 0, .int .i64 1, .string ⟨#[71, 69, 84, 32, 47, 97, 32, 72, 84, 84, 80, 47, 49, 46, 49, 13, 10, 13, 10]⟩] w (fun e w' => ∃ v, e = .returned v ∧ FedGet w b mb w1 v w') := by
  have hlt := h.lt
  have hml := h.ltm
  refine (feed_unsure w b mb w1 _ _ _ (fun W v w5 => ∃ cs' f', SessAt w5 b mb none cs' f' [] ∧ cs'[1]? = some (.int .i64 1) ∧ w5.ownsRow 0 39 4 v 2 (bufsV bufsGet) ∧ ∀ S, (∀ k, k ∈ [b, mb] → k ∈ S) → Keeps S w W → Keeps S w w5) 0 h rfl rfl rfl rfl rfl rfl rfl rfl rfl rfl cntLe_zero (by decide) hw hwb hwm (by decide) (by decide) ?_).mono ?_
  · intro W hA
    obtain ⟨⟨ob, hs, hob⟩, _, hk⟩ := hA
    refine (recognize_get W b mb ob _ _ 0 hs (by decide) (by decide) rfl rfl rfl rfl rfl rfl rfl rfl rfl rfl rfl rfl).mono ?_
    rintro e w4 ⟨rfl, ob', cs', t1, t2, t3⟩
    refine ⟨rfl, (take_sess w4 b mb ob' _ _ _ t1).mono ?_⟩
    rintro e w5 ⟨v, rfl, u1, u2, u3, u4⟩
    refine ⟨v, rfl, cs', _, u1, t2, u2, fun S hS hSW => ?_⟩
    refine (hSW.trans t3 ?_).trans u4 (by intro x hx _; simp at hx; subst hx; exact hS _ (by simp))
    intro x hx hl
    simp [foot] at hx
    rcases hx with hx | hx | hx
    · subst hx; exact hS _ (by simp)
    · subst hx; exact hS _ (by simp)
    · exact hS _ ((hob x hx).resolve_right (by omega))
  · rintro e w' ⟨W, v, rfl, hA, cs', f', r1, r2, r3, r4⟩
    exact ⟨v, rfl, cs', f', r1, r2, r3, r4 [b, mb, w1] (by simp) hA.keeps⟩

def CellsAbcd (b1 b2 : Int) (mb w1 w2 : Nat) : Array Value :=
  (((((((SessCells0 6 b1 b2 mb w1 w2).setIfInBounds 31 (.int .i64 0)).setIfInBounds 20 (.string ⟨#[97, 98, 99, 100]⟩)).setIfInBounds 1 (.int .i64 0)).setIfInBounds 2 (.bool true)).setIfInBounds 20 (.string ⟨#[]⟩)).setIfInBounds 25 (.string ⟨#[]⟩))

theorem cellsAbcd_at (b1 b2 : Int) (mb w1 w2 : Nat) : (CellsAbcd b1 b2 mb w1 w2)[0]? = some (.int .i64 6) ∧ (CellsAbcd b1 b2 mb w1 w2)[1]? = some (.int .i64 0) ∧ (CellsAbcd b1 b2 mb w1 w2)[2]? = some (.bool true) ∧ (CellsAbcd b1 b2 mb w1 w2)[9]? = some (.bool false) ∧ (CellsAbcd b1 b2 mb w1 w2)[19]? = some (.pointer (some ⟨w1, 0, none⟩)) ∧ (CellsAbcd b1 b2 mb w1 w2)[21]? = some (.bool false) ∧ (CellsAbcd b1 b2 mb w1 w2)[22]? = some (.bool false) ∧ (CellsAbcd b1 b2 mb w1 w2)[27]? = some (.bool false) ∧ (CellsAbcd b1 b2 mb w1 w2)[29]? = some .nilIface ∧ (CellsAbcd b1 b2 mb w1 w2)[31]? = some (.int .i64 0) := by
  refine ⟨?_, ?_, ?_, ?_, ?_, ?_, ?_, ?_, ?_, ?_⟩ <;> unfold CellsAbcd <;> (repeat (first | rw [Array.getElem?_setIfInBounds_ne (by decide)] | rw [Array.getElem?_setIfInBounds_self_of_lt (by simp only [Array.size_setIfInBounds]; decide)])) <;> rfl

/-- What Feed gives to a session whose first bytes say nothing. -/
structure FedAbcd (w : World) (b mb wb : Nat) (b1 b2 : Int) (w' : World) : Prop where
  sess : ∃ ob cs', SessAt w' b mb ob cs' (fun _ _ => 0) [] ∧ cs'[0]? = some (.int .i64 6) ∧ cs'[1]? = some (.int .i64 0) ∧ cs'[2]? = some (.bool true) ∧ cs'[9]? = some (.bool false) ∧ cs'[19]? = some (.pointer (some ⟨wb, 0, none⟩)) ∧ cs'[21]? = some (.bool false) ∧ cs'[22]? = some (.bool false) ∧ cs'[27]? = some (.bool false) ∧ cs'[29]? = some .nilIface ∧ cs'[31]? = some (.int .i64 0) ∧ wb ∉ foot b mb ob ∧ (∀ k ∈ foot b mb ob, k ∈ [b, mb] ∨ w.heap.size ≤ k)
  win : ∃ g c, w.heap.size ≤ g ∧ g < w'.heap.size ∧ w'.heap[wb]? = some (WinObj 1 1 0 0 (.slice (some ⟨g, 0, none⟩) 4 c)) ∧ Lib.Bytes w' g 0 ⟨#[97, 98, 99, 100]⟩
  keeps : Keeps [b, mb, wb] w w'

theorem feed_abcd (w : World) (b mb w1 w2 : Nat) (b1 b2 : Int) (h : SessAt w b mb none (SessCells0 6 b1 b2 mb w1 w2) (fun _ _ => 0) []) (hw : w.heap[w1]? = some (WinObj 1 1 0 0 (.slice none 0 0))) (hwb : w1 ≠ b) (hwm : w1 ≠ mb) :
    Calls Tryz.prog 17 #[.pointer (some ⟨b, 0, none⟩), .int .i64 0, .int .i64 1, .string ⟨#[97, 98, 99, 100]⟩] w (fun e w' => ∃ v, e = .returned v ∧ w'.ownsRow 0 39 4 v 0 [] ∧ FedAbcd w b mb w1 b1 b2 w') := by
  have hlt := h.lt
  have hml := h.ltm
  have hwl := lt_of_heap hw
  refine (feed_unsure w b mb w1 _ _ _ (fun W v w5 => ∃ ob w4, SessAt W b mb ob (((SessCells0 6 b1 b2 mb w1 w2).setIfInBounds 31 (.int .i64 0)).setIfInBounds 20 (.string ⟨#[97, 98, 99, 100]⟩)) (fun _ _ => 0) [] ∧ (∀ k, ob = some k → k ∈ [b, mb] ∨ w.heap.size ≤ k) ∧ Keeps [b] W w4 ∧ Keeps [b] w4 w5 ∧ SessAt w5 b mb none (CellsAbcd b1 b2 mb w1 w2) (fun _ _ => 0) [] ∧ w5.ownsRow 0 39 4 v 0 []) 0 h rfl rfl rfl rfl rfl rfl rfl rfl rfl rfl cntLe_zero (by decide) hw hwb hwm (by decide) (by decide) ?_).mono ?_
  · intro W hA
    obtain ⟨⟨ob, hs, hob⟩, _, hk⟩ := hA
    refine (recognize_abcd W b mb ob _ _ [] 0 hs rfl rfl rfl rfl rfl rfl rfl rfl).mono ?_
    rintro e w4 ⟨rfl, t1, t2⟩
    refine ⟨rfl, (take_sess w4 b mb ob _ _ _ t1).mono ?_⟩
    rintro e w5 ⟨v, rfl, u1, u2, u3, u4⟩
    exact ⟨v, rfl, ob, w4, hs, hob, t2, u4, u1, u2⟩
  · rintro e w' ⟨W, v, rfl, ⟨_, ⟨g, c, hg, hwin, hby⟩, hk⟩, ob, w4, hs, hob, t2, u4, u1, u2⟩
    have hk5 : Keeps [b] W w' := t2.trans u4 (fun _ h _ => h)
    have hgb : g ∉ [b] := by simp; omega
    have hgl : g < W.heap.size := by
      have := hby 0 (by decide)
      exact World.block_lt_of_cell? W _ this
    obtain ⟨a0, a1, a2, a9, a19, a21, a22, a27, a29, a31⟩ := cellsAbcd_at b1 b2 mb w1 w2
    have hfo : w1 ∉ foot b mb none := by simp [foot]; exact ⟨hwb, hwm⟩
    have hwin' := hk5.heap hwin (by simpa using hwb)
    refine ⟨v, rfl, u2, ⟨⟨none, CellsAbcd b1 b2 mb w1 w2, u1, a0, a1, a2, a9, a19, a21, a22, a27, a29, a31, hfo, fun k hk => .inl (by simpa [foot] using hk)⟩, ⟨g, c, hg, Nat.lt_of_lt_of_le hgl hk5.size, hwin', fun j hj => hk5.cell (hby j hj) hgb⟩, hk.trans hk5 (by simp)⟩⟩
end Go.Proofs.Sess
namespace Go.Proofs.Sess
open Go Go.RowKit

set_option maxRecDepth 100000 in
set_option maxHeartbeats 8000000 in
/-- The examples of the chapter hold. -/
theorem awake_true (w : World) : Calls Tryz.prog 10 #[] w fun e w' => e = .returned (.bool true) ∧ Keeps [] w w' := by
  have hT := toList_mk
  go_enter Tryz.func10, Tryz.ntmps10
  go_upto_region 2 with (go_at_call 12; refine (sessNew_nil _ 1000 10).mono ?_; rintro e w1 ⟨rfl, hq⟩; have H1 := Lib.hid hq; clear hq)
  have hz1 : w.heap.size + 5 < w1.heap.size := lt_of_heap H1.out.2.2.1
  have HF := Lib.hid (feed_get w1 (w.heap.size + 2) (w.heap.size + 1) (w.heap.size + 4) (w.heap.size + 5) 1000 10 H1.out.1 H1.out.2.1 (by omega) (by omega))
  go_upto_region 3 with (go_at_call 17; refine HF.out.mono ?_; rintro e w2 ⟨v, rfl, cs2, f2, q1, q2, q3, q4⟩; have H2 := Lib.hid (And.intro q1 (And.intro q2 (And.intro q3 q4))); clear q1 q2 q3 q4 HF)
  have hk2 : Keeps [] w w2 := H1.out.2.2.2.trans H2.out.2.2.2 (by intro x hx hl; simp at hx; omega)
  have hka : Keeps [] w2 (w2.alloc (.cells #[.int .i64 3, .int .i64 1, .int .i64 0, .string ⟨#[71, 69, 84]⟩, .int .i64 4, .int .i64 1, .int .i64 0, .string ⟨#[47, 97]⟩] 39)) := (Keeps.refl _ _).alloc _
  have HS := Lib.hid (same_eq _ v (.slice (some ⟨w2.heap.size, 0, none⟩) 2 2) bufsGet (hka.own H2.out.2.2.1 (by simp)) (own_of_block (cur := #[.int .i64 3, .int .i64 1, .int .i64 0, .string ⟨#[71, 69, 84]⟩, .int .i64 4, .int .i64 1, .int .i64 0, .string ⟨#[47, 97]⟩]) heap_alloc_self rfl rfl (by unfold maxLen; decide)) (by decide))
  have H3 := Lib.hid (And.intro hk2 hka)
  clear hk2 hka
  go_wp2_with (first
    | (go_at_call 20; refine HS.out.mono ?_; rintro e w3 ⟨rfl, hq⟩; have H4 := Lib.hid hq; clear hq)
    | (go_at_call 19; refine (app_sess w3 (w.heap.size + 2) (w.heap.size + 1) none cs2 f2 [] 1 ((H2.out.1.keep H3.out.2 (by simp)).keep H4.out (by simp)) H2.out.2.1).mono ?_; rintro e w4 ⟨rfl, rfl⟩)
    | (go_at_call 12; refine (sessNew_nil _ 1000 10).mono ?_; rintro e w5 ⟨rfl, hq⟩; have H5 := Lib.hid hq; clear hq
       have hz5 : w3.heap.size + 5 < w5.heap.size := lt_of_heap H5.out.2.2.1
       have HF := Lib.hid (feed_abcd w5 (w3.heap.size + 2) (w3.heap.size + 1) (w3.heap.size + 4) (w3.heap.size + 5) 1000 10 H5.out.1 H5.out.2.1 (by omega) (by omega)))
    | (go_at_call 17; refine HF.out.mono ?_; rintro e w6 ⟨v6, rfl, q1, q2⟩; have H6 := Lib.hid (And.intro q1 q2); clear q1 q2 HF
       obtain ⟨ob, cs6, s0, s1, s2, s3, s4, s5, s6, s7, s8, s9, s10, s11, s12⟩ := H6.out.2.sess
       obtain ⟨g, c, t1, t2, t3, t4⟩ := H6.out.2.win
       have hfin := finish_raw w6 (w3.heap.size + 2) (w3.heap.size + 1) (w3.heap.size + 4) g 0 c ob cs6 (fun _ _ => 0) ⟨#[97, 98, 99, 100]⟩ 0 0 s0 s1 s2 s3 s4 s5 s6 s7 s8 s9 s10 cntLe_zero (by decide) t3 t4 t2 (by omega) s11 (by decide)
       have hv6 : v6 = .slice none 0 0 ∨ ∃ a c, v6 = .slice (some a) 0 c := by
         rcases H6.out.1.2 with ⟨h, _⟩ | ⟨g, c, _, h, _⟩
         · exact .inl h
         · exact .inr ⟨_, _, h⟩
       have HFin := Lib.hid (And.intro hfin s12)
       have HV := Lib.hid hv6
       clear s0 s1 s2 s3 s4 s5 s6 s7 s8 s9 s10 s11 s12 t1 t2 t3 t4 hfin hv6)
    | (go_at_call 16; refine HFin.out.1.mono ?_; rintro e w7 ⟨v7, cs7, rfl, q1, q2, q3, q4⟩; have H7 := Lib.hid (And.intro q1 (And.intro q2 (And.intro q3 q4))); clear q1 q2 q3 q4))
  obtain ⟨a6, c6, hv6⟩ : ∃ a c, v6 = .slice a 0 c := by
    rcases HV.out with h | ⟨a, c, h⟩
    · exact ⟨none, 0, h⟩
    · exact ⟨_, _, h⟩
  subst hv6
  have hkb : Keeps [] w7 (w7.alloc (.cells #[.int .i64 1, .int .i64 1, .int .i64 0, .string ⟨#[97, 98, 99, 100]⟩] 39)) := (Keeps.refl _ _).alloc _
  have HS2 := Lib.hid (same_eq _ v7 (.slice (some ⟨w7.heap.size, 0, none⟩) 1 1) bufsAbcd (hkb.own H7.out.2.2.1 (by simp)) (own_of_block (cur := #[.int .i64 1, .int .i64 1, .int .i64 0, .string ⟨#[97, 98, 99, 100]⟩]) heap_alloc_self rfl rfl (by unfold maxLen; decide)) (by decide))
  have HKB := Lib.hid hkb
  clear hkb
  go_simp
  go_wp2_with (first
    | (go_at_call 20; refine HS2.out.mono ?_; rintro e w8 ⟨rfl, hq⟩; have H8 := Lib.hid hq; clear hq)
    | (go_at_call 19; refine (app_sess w8 (w3.heap.size + 2) (w3.heap.size + 1) none cs7 _ [] 0 ((H7.out.1.keep HKB.out (by simp)).keep H8.out (by simp)) H7.out.2.1).mono ?_; rintro e w9 ⟨rfl, rfl⟩))
  go_ret
  refine ⟨rfl, ?_⟩
  have k3 : Keeps [] w w3 := (H3.out.1.trans H3.out.2 (by simp)).trans H4.out (by simp)
  have k5 : Keeps [] w w5 := k3.trans H5.out.2.2.2 (by simp)
  have hz3 := k3.size
  have k6 : Keeps [] w w6 := k5.trans H6.out.2.keeps (by intro x hx hl; simp at hx; omega)
  have k7 : Keeps [] w w7 := k6.trans H7.out.2.2.2 (by
    intro x hx hl
    rcases List.mem_append.1 hx with h | h
    · simp at h; omega
    · rcases HFin.out.2 x h with h | h
      · simp at h; omega
      · have := k5.size; omega)
  exact (k7.trans HKB.out (by simp)).trans H8.out (by simp)
end Go.Proofs.Sess
