/- A part of the proof that a nil session yields nothing (SessionNone). Its contents: contracts of functions of the program, each stated with its premises. -/
import Derived.Test.YtkaafdoplemjhaaGreatDoorSessPB3
import Derived.Test.YtkaafdoplemjhaaGreatDoorSessPA4
namespace Go.Proofs.Sess
open Go Go.RowKit

/-- The parsers of HTTP, new, in the block hb. -/
structure HttpFresh (w : World) (b hb : Nat) : Prop where
  hh : w.heap[hb]? = some (.cells (HttpCells b (hb + 3) (hb + 5) ⟨#[]⟩ (.slice none 0 0)) 133 (0, 0))
  s1 : SplitAt w (hb + 2) none 0 false ⟨#[]⟩
  p1 : ParsAt w (hb + 3) none (HttpMsg0 true (hb + 2)) []
  p2 : ParsAt w (hb + 5) none (HttpMsg0 false (hb + 4)) []

theorem HttpFresh.of_new {w w' : World} {b : Nat} {e : Ending} (h : HttpNew w b e w') : HttpFresh w' b w.heap.size := by
  obtain ⟨_, h0, h2, h3, h4, h5, hk⟩ := h
  exact ⟨h0, ⟨⟨_, h2, rfl, World.ownsRow_nil _ _ _ _⟩, by simp⟩, ⟨rfl, ⟨.slice none 0 0, h3, rfl, World.ownsRow_nil _ _ _ _⟩, by simp⟩, ⟨rfl, ⟨.slice none 0 0, h5, rfl, World.ownsRow_nil _ _ _ _⟩, by simp⟩⟩

theorem HttpFresh.keep {w w' : World} {b hb : Nat} (h : HttpFresh w b hb) {S : List Nat} (hk : Keeps S w w') (hS : ∀ k ∈ S, k < hb) : HttpFresh w' b hb := by
  refine ⟨hk.heap h.hh (fun hh => by have := hS _ hh; omega), h.s1.keep hk ?_, h.p1.keep hk ?_, h.p2.keep hk ?_⟩ <;>
  · intro k hk hh
    have := hS _ hh
    simp [footS] at hk
    omega

/-- begin, where the application is HTTP. -/
def BegunHttp (w : World) (b mb : Nat) (ob : Option Nat) (cs : Array Value) (f : Int → Int → Int) (l : List Buf) (e : Ending) (w' : World) : Prop :=
  e = .returned (.tuple #[]) ∧ SessAt w' b mb ob (cs.setIfInBounds 29 (.iface 126 (.pointer (some ⟨w.heap.size, 0, none⟩)))) f l ∧ HttpFresh w' b w.heap.size ∧ Keeps [b] w w'

set_option maxRecDepth 100000 in
set_option maxHeartbeats 1600000 in
theorem begin_http (w : World) (b mb : Nat) (ob : Option Nat) (cs : Array Value) (f : Int → Int → Int) (l : List Buf) (h : SessAt w b mb ob cs f l) (h0 : cs[0]? = some (.int .i64 6)) (h1 : cs[1]? = some (.int .i64 1)) (h29 : cs[29]? = some .nilIface) :
    Calls Tryz.prog 23 #[.pointer (some ⟨b, 0, none⟩)] w (BegunHttp w b mb ob cs f l) := by
  have c0 := h.cell (by decide) h0
  have c1 := h.cell (by decide) h1
  have hbl := h.lt
  have H := Lib.hid h
  have H29 := Lib.hid h29
  clear h h0 h1 h29
  go_enter Tryz.func23, Tryz.ntmps23
  go_wp2_with (go_at_call 40; refine (newHttp_any _ b).mono ?_; rintro e w1 hq
               have he := hq.1
               subst he
               have hs1 := H.out.keep hq.2.2.2.2.2.2 (by simp)
               have c29 := hs1.cell (o := 29) (by decide) H29.out
               have f29 := hs1.free 29
               have H1 := Lib.hid (And.intro hs1 hq)
               clear hs1 hq)
  go_end0
  exact ⟨rfl, H1.out.1.store (by decide) (by decide) _, (HttpFresh.of_new H1.out.2).keep ((Keeps.refl [b] w1).setCell (by simp) _) (by simpa using hbl), (H1.out.2.2.2.2.2.2.2.mono (by simp)).trans ((Keeps.refl [b] w1).setCell (by simp) _) (by simp)⟩

/-- The interface's method feed, at the parsers of HTTP. -/
theorem method_feed_http (x : Value) (w : World) : (method 844 126 x "intrusion/session.feed").run Tryz.prog w = .ok (326, x) w := by kernel_rfl
theorem callFunc_326 (args : Array Value) (w : World) : (callFunc 326 args).run Tryz.prog w = .ok (.enter 326 args) w := by kernel_rfl

set_option maxRecDepth 100000 in
set_option maxHeartbeats 8000000 in
theorem recognize_get (w : World) (b mb : Nat) (ob : Option Nat) (cs : Array Value) (f : Int → Int → Int) (a1 : Int)
    (h : SessAt w b mb ob cs f []) (hf3 : 0 ≤ f 3 1 ∧ f 3 1 < 1000) (hf4 : 0 ≤ f 4 1 ∧ f 4 1 < 1000) (h0 : cs[0]? = some (.int .i64 6)) (h1 : cs[1]? = some (.int .i64 a1)) (h2 : cs[2]? = some (.bool false)) (h20 : cs[20]? = some (.string ⟨#[71, 69, 84, 32, 47, 97, 32, 72, 84, 84, 80, 47, 49, 46, 49, 13, 10, 13, 10]⟩)) (h25 : cs[25]? = some (.string ⟨#[]⟩)) (h21 : cs[21]? = some (.bool false)) (h22 : cs[22]? = some (.bool false)) (h26 : cs[26]? = some (.bool false)) (h27 : cs[27]? = some (.bool false)) (h23 : cs[23]? = some (.bool false)) (h28 : cs[28]? = some (.bool false)) (h29 : cs[29]? = some .nilIface) :
    Calls Tryz.prog 34 #[.pointer (some ⟨b, 0, none⟩), .int .i64 0, .int .i64 1, .bool false] w fun e w' => e = .returned (.tuple #[]) ∧ ∃ ob' cs', SessAt w' b mb ob' cs' (bump (bump f 3 1) 4 1) ([⟨3, 1, f 3 1, ⟨#[71, 69, 84]⟩⟩] ++ [⟨4, 1, bump f 3 1 4 1, ⟨#[47, 97]⟩⟩]) ∧ cs'[1]? = some (.int .i64 1) ∧ Keeps (foot b mb ob) w w' := by
  have hT := toList_mk
  have hX1 : (ByteArray.mk #[71, 69, 84, 32, 47, 97, 32, 72, 84, 84, 80, 47, 49, 46, 49, 13, 10, 13, 10]).extract 0 4 = ⟨#[71, 69, 84, 32]⟩ := by rfl
  have hX2 : (ByteArray.mk #[71, 69, 84, 32, 47, 97, 32, 72, 84, 84, 80, 47, 49, 46, 49, 13, 10, 13, 10]).extract 4 19 = ⟨#[47, 97, 32, 72, 84, 84, 80, 47, 49, 46, 49, 13, 10, 13, 10]⟩ := by rfl
  have c1 := h.cell (by decide) h1
  have c2 := h.cell (by decide) h2
  have c20 := h.cell (by decide) h20
  have f1 := h.free 1
  have f2 := h.free 2
  have hbl := h.lt
  have hcz := h.size
  have hflt := h.foot_lt
  have hzw : ((w.setCell ⟨b, 1, none⟩ (.int .i64 1)).setCell ⟨b, 2, none⟩ (.bool true)).heap.size = w.heap.size := by simp [World.setCell]
  have hs1 := (h.store (o := 1) (by decide) (by decide) (.int .i64 1)).store (o := 2) (by decide) (by decide) (.bool true)
  have hk1 : Keeps [b] w ((w.setCell ⟨b, 1, none⟩ (.int .i64 1)).setCell ⟨b, 2, none⟩ (.bool true)) := ((Keeps.refl _ _).setCell (by simp) _).setCell (by simp) _
  have hB := begin_http _ b mb ob _ f [] hs1 (by rw [Array.getElem?_setIfInBounds_ne (by decide), Array.getElem?_setIfInBounds_ne (by decide)]; exact h0) (by rw [Array.getElem?_setIfInBounds_ne (by decide), Array.getElem?_setIfInBounds_self_of_lt (by omega)]) (by rw [Array.getElem?_setIfInBounds_ne (by decide), Array.getElem?_setIfInBounds_ne (by decide)]; exact h29)
  have HB := Lib.hid hB
  have HK1 := Lib.hid hk1
  have far : ∀ (o : Nat) (v : Value), o ≠ 1 → o ≠ 2 → o ≠ 29 → cs[o]? = some v → (((cs.setIfInBounds 1 (.int .i64 1)).setIfInBounds 2 (.bool true)).setIfInBounds 29 (.iface 126 (.pointer (some ⟨((w.setCell ⟨b, 1, none⟩ (.int .i64 1)).setCell ⟨b, 2, none⟩ (.bool true)).heap.size, 0, none⟩))))[o]? = some v := fun o v h1 h2 h3 hv => by
    rw [Array.getElem?_setIfInBounds_ne (Ne.symm h3), Array.getElem?_setIfInBounds_ne (Ne.symm h2), Array.getElem?_setIfInBounds_ne (Ne.symm h1)]; exact hv
  have HF := Lib.hid far
  have HC := Lib.hid (And.intro h20 (And.intro h21 (And.intro h22 (And.intro h23 (And.intro h25 (And.intro h26 (And.intro h27 h28)))))))
  clear h h0 h1 h2 h20 h21 h22 h23 h25 h26 h27 h28 h29 hs1 hk1 hB far
  go_enter Tryz.func34, Tryz.ntmps34
  go_upto_region 6 with (first
    | (go_at_call 56; refine (appOf_get _).mono ?_; rintro e w1 ⟨rfl, rfl⟩)
    | (go_at_call 23; refine HB.out.mono ?_; rintro e w1 ⟨rfl, q1, q2, q3⟩; have H1 := Lib.hid (And.intro q1 (And.intro q2 q3)); clear q1 q2 q3))
  have cc : ∀ {o : Nat} {v : Value}, o ≠ 30 → o ≠ 1 → o ≠ 2 → o ≠ 29 → cs[o]? = some v → w1.cell? ⟨b, o, none⟩ = some v := fun h0 h1 h2 h3 hv => H1.out.1.cell h0 (HF.out _ _ h1 h2 h3 hv)
  have e1 : w1.cell? ⟨b, 1, none⟩ = some (.int .i64 1) := H1.out.1.cell (by decide) (by rw [Array.getElem?_setIfInBounds_ne (by decide), Array.getElem?_setIfInBounds_ne (by decide), Array.getElem?_setIfInBounds_self_of_lt (by omega)])
  have e29 : w1.cell? ⟨b, 29, none⟩ = some (.iface 126 (.pointer (some ⟨w.heap.size, 0, none⟩))) := H1.out.1.cell (by decide) (by rw [Array.getElem?_setIfInBounds_self_of_lt (by simp only [Array.size_setIfInBounds]; omega)]; simp [World.setCell])
  have e20 := cc (by decide) (by decide) (by decide) (by decide) HC.out.1
  have e21 := cc (by decide) (by decide) (by decide) (by decide) HC.out.2.1
  have e22 := cc (by decide) (by decide) (by decide) (by decide) HC.out.2.2.1
  have e23 := cc (by decide) (by decide) (by decide) (by decide) HC.out.2.2.2.1
  have e25 := cc (by decide) (by decide) (by decide) (by decide) HC.out.2.2.2.2.1
  have e26 := cc (by decide) (by decide) (by decide) (by decide) HC.out.2.2.2.2.2.1
  have e27 := cc (by decide) (by decide) (by decide) (by decide) HC.out.2.2.2.2.2.2.1
  have e28 := cc (by decide) (by decide) (by decide) (by decide) HC.out.2.2.2.2.2.2.2
  have g20 := H1.out.1.free 20
  have g25 := H1.out.1.free 25
  have hbl1 := H1.out.1.lt
  clear cc c1 c2 c20 f1 f2
  go_wp2_with fail
  refine wp_loop_rounds 3 ?_
  rw [rounds_succ]
  go_wp2_with fail
  rw [rounds_succ]
  go_wp2_with fail
  rw [rounds_succ]
  go_wp2_with fail
  refine wp_loop_rounds 3 ?_
  rw [rounds_succ]
  go_wp2_with fail
  clear e20 e21 e22 e23 e25 e26 e27 e28
  refine wp_region_seq (fun _ => True)
    [(0, 0), (1, 0), (2, 0), (3, 0), (4, 0), (5, 0)]
    [] (by kernel_rfl) (by kernel_rfl) (fun d _ _ _ _ h => by cases d <;> exact h) ?_
  simp only [picks, List.getD_cons_succ, List.getD_cons_zero]
  (refine seq_pure (v := ?_) (by rfl) ?_ ?_; rotate_left; focus (intro wq; first | (go_simp; done) | (go_simp; with_reducible rfl))); (try simp only [Act.put, List.setIfInBounds_toArray, List.set_cons_zero, List.set_cons_succ])
  (refine seq_pure (v := ?_) (by rfl) ?_ ?_; rotate_left; focus (intro wq; first | (go_simp; done) | (go_simp; with_reducible rfl))); (try simp only [Act.put, List.setIfInBounds_toArray, List.set_cons_zero, List.set_cons_succ])
  (refine seq_pure (v := ?_) (by rfl) ?_ ?_; rotate_left; focus (intro wq; first | (go_simp; done) | (go_simp; with_reducible rfl))); (try simp only [Act.put, List.setIfInBounds_toArray, List.set_cons_zero, List.set_cons_succ])
  (refine seq_pure (v := ?_) (by rfl) ?_ ?_; rotate_left; focus (intro wq; first | (go_simp; done) | (go_simp; with_reducible rfl))); (try simp only [Act.put, List.setIfInBounds_toArray, List.set_cons_zero, List.set_cons_succ])
  (refine seq_pure (v := ?_) (by rfl) ?_ ?_; rotate_left; focus (intro wq; first | (go_simp; done) | (go_simp; with_reducible rfl))); (try simp only [Act.put, List.setIfInBounds_toArray, List.set_cons_zero, List.set_cons_succ])
  (refine seq_pure (v := ?_) (by rfl) ?_ ?_; rotate_left; focus (intro wq; first | (go_simp; done) | (go_simp; with_reducible rfl))); (try simp only [Act.put, List.setIfInBounds_toArray, List.set_cons_zero, List.set_cons_succ])
  refine seq_nil ?_
  go_wp2_with fail
  have hq := H1.out
  rw [hzw] at hq
  obtain ⟨q1, q2, q3⟩ := hq
  clear H1
  have hk0 : Keeps [b] w1 ((((w1.setCell ⟨b, 20, none⟩ (.string ⟨#[]⟩)).alloc (.cells #[.int .i64 1, .int .i64 2] 3)).alloc (.cells #[.int .i64 1, .int .i64 2] 3)).drew) := ((((Keeps.refl _ _).setCell (by simp) _).alloc _).alloc _).drew
  have hs0 : SessAt ((((w1.setCell ⟨b, 20, none⟩ (.string ⟨#[]⟩)).alloc (.cells #[.int .i64 1, .int .i64 2] 3)).alloc (.cells #[.int .i64 1, .int .i64 2] 3)).drew) b mb ob _ f [] := (q1.store (o := 20) (by decide) (by decide) (.string ⟨#[]⟩)).keep (((Keeps.refl [] _).alloc _).alloc _).drew (by simp)
  have HK2 := Lib.hid (q3.trans (T := [b]) hk0 (fun _ h _ => h))
  have hfr := q2.keep hk0 (by simpa using hbl)
  have hz1 : w.heap.size + 6 ≤ w1.heap.size := by
    obtain ⟨v, h1, _, _⟩ := q2.p2.own
    have := lt_of_heap h1
    omega
  have hzs : (w1.setCell ⟨b, 20, none⟩ (.string ⟨#[]⟩)).heap.size = w1.heap.size := by simp [World.setCell]
  have ha : ((((w1.setCell ⟨b, 20, none⟩ (.string ⟨#[]⟩)).alloc (.cells #[.int .i64 1, .int .i64 2] 3)).alloc (.cells #[.int .i64 1, .int .i64 2] 3)).drew).heap[w1.heap.size + 1]? = some (.cells #[.int .i64 1, .int .i64 2] 3 (0, 0)) := by
    rw [drew_get, alloc_get, if_pos (by rw [alloc_size, hzs])]
  rw [method_feed_http, Result.andThen_ok, callFunc_326, Oper.upon_enter]
  refine (httpFeed_4 _ b w.heap.size (w.heap.size + 3) (w.heap.size + 5) (w.heap.size + 2) ⟨#[]⟩ _ _ ⟨#[71, 69, 84, 32]⟩ hfr.hh hfr.p1 rfl rfl hfr.s1 (by rfl) (by rfl) (by rfl) (by rfl) (by omega) 0).mono ?_
  rintro e w2 ⟨rfl, obs, r1, r2, r3, r4⟩
  have hnf : ∀ k ∈ foot b mb ob, k ∉ [w.heap.size + 3, w.heap.size + 2] := fun k hk hh => by
    have := hflt k hk
    simp at hh
    omega
  have hs2 := hs0.keep r3 hnf
  have ha2 := r3.heap ha (by simp; omega)
  have cc : ∀ {o : Nat} {v : Value}, o ≠ 30 → o ≠ 1 → o ≠ 2 → o ≠ 29 → o ≠ 20 → cs[o]? = some v → w2.cell? ⟨b, o, none⟩ = some v := fun h0 h1 h2 h3 h4 hv => hs2.cell h0 (by rw [Array.getElem?_setIfInBounds_ne (Ne.symm h4)]; have := HF.out _ _ h1 h2 h3 hv; rw [hzw] at this; exact this)
  have e29 : w2.cell? ⟨b, 29, none⟩ = some (.iface 126 (.pointer (some ⟨w.heap.size, 0, none⟩))) := hs2.cell (by decide) (by rw [Array.getElem?_setIfInBounds_ne (by decide), Array.getElem?_setIfInBounds_self_of_lt (by simp only [Array.size_setIfInBounds]; omega)])
  have e21 := cc (by decide) (by decide) (by decide) (by decide) (by decide) HC.out.2.1
  have e22 := cc (by decide) (by decide) (by decide) (by decide) (by decide) HC.out.2.2.1
  have e25 := cc (by decide) (by decide) (by decide) (by decide) (by decide) HC.out.2.2.2.2.1
  have e26 := cc (by decide) (by decide) (by decide) (by decide) (by decide) HC.out.2.2.2.2.2.1
  have e27 := cc (by decide) (by decide) (by decide) (by decide) (by decide) HC.out.2.2.2.2.2.2.1
  have g25 := hs2.free 25
  have d1 : w2.cell? ⟨w1.heap.size + 1, 1, none⟩ = some (.int .i64 2) := cell_of_heap ha2 rfl
  have hfr2 : HttpFresh ((((w1.setCell ⟨b, 20, none⟩ (.string ⟨#[]⟩)).alloc (.cells #[.int .i64 1, .int .i64 2] 3)).alloc (.cells #[.int .i64 1, .int .i64 2] 3)).drew) b w.heap.size := hfr
  have H2 := Lib.hid (And.intro r1 (And.intro r2 (And.intro r3 (And.intro r4 (And.intro hs2 hfr)))))
  clear cc q1 q2 q3 hk0 hs0 hfr hfr2 ha ha2 r1 r2 r3 r4 hs2
  go_wp2_with fail
  rw [rounds_succ]
  go_wp2_with fail
  rw [rounds_succ]
  go_wp2_with fail
  rw [method_feed_http, Result.andThen_ok, callFunc_326, Oper.upon_enter]
  have hk3 : Keeps [b] w2 (w2.setCell ⟨b, 25, none⟩ (.string ⟨#[]⟩)) := (Keeps.refl _ _).setCell (by simp) _
  have hs3 := H2.out.2.2.2.2.1.store (o := 25) (by decide) (by decide) (.string ⟨#[]⟩)
  have hsu : ∀ k ∈ footS (w.heap.size + 2) obs, k ∉ foot b mb ob ∧ k ≠ w.heap.size ∧ k ≠ w.heap.size + 5 ∧ k ≠ w.heap.size + 3 := fun k hk => by
    rcases H2.out.2.2.2.1 k hk with h | h
    · exact ⟨fun hh => by have := hflt k hh; omega, by omega, by omega, by omega⟩
    · rw [drew_size, alloc_size, alloc_size, hzs] at h
      exact ⟨fun hh => by have := hflt k hh; omega, by omega, by omega, by omega⟩
  have hbb : b ∈ foot b mb ob := by simp [foot]
  have hbn : ∀ k, b ≠ w.heap.size + k := fun k => by omega
  refine (httpFeed_get _ b mb w.heap.size (w.heap.size + 3) (w.heap.size + 5) (w.heap.size + 2) ob obs _ (HttpMsg0 true (w.heap.size + 2)) (HttpMsg0 false (w.heap.size + 4)) f false 0 _ _ hs3 hf3 hf4
    (hk3.heap (H2.out.2.2.1.heap H2.out.2.2.2.2.2.hh (by simp)) (by simp; omega)) (H2.out.1.keep hk3 (by simp [footS]; omega)) rfl rfl rfl rfl rfl rfl rfl rfl (H2.out.2.1.keep hk3 (fun k hk hh => by simp at hh; subst hh; exact (hsu _ hk).1 hbb))
    ((H2.out.2.2.2.2.2.p2.keep H2.out.2.2.1 (by simp [footS])).keep hk3 (by simp [footS]; omega)) rfl rfl (fun hh => by have := hflt _ hh; omega) (fun hh => by have := hflt _ hh; omega) (by omega)
    (fun k hk => by
      rcases List.mem_append.1 hk with h | h
      · simp at h; subst h; exact ⟨fun hh => by have := hflt _ hh; omega, by omega, by omega⟩
      · exact ⟨(hsu k h).1, (hsu k h).2.1, (hsu k h).2.2.1⟩) (fun hh => (hsu _ hh).2.2.2 rfl) 0).mono ?_
  rintro e w3 ⟨rfl, ob3, t1, t2⟩
  have hkw : Keeps (foot b mb ob) w w2 := ((HK1.out.mono (T := foot b mb ob) (by intro x hx _; simp at hx; subst hx; exact hbb)).trans HK2.out (by intro x hx _; simp at hx; subst hx; exact hbb)).trans H2.out.2.2.1 (by intro x hx hl; simp at hx; omega)
  have hkx : Keeps (foot b mb ob) w w3 := (hkw.trans hk3 (by intro x hx _; simp at hx; subst hx; exact hbb)).trans t2 (by
    intro x hx hl
    rcases List.mem_append.1 hx with hx | hx
    · rcases List.mem_append.1 hx with hx | hx
      · simp at hx; omega
      · exact hx
    · rcases List.mem_append.1 hx with hx | hx
      · simp at hx; omega
      · rcases H2.out.2.2.2.1 x hx with h | h
        · omega
        · rw [drew_size, alloc_size, alloc_size, hzs] at h; omega)
  have H3 := Lib.hid (And.intro t1 hkx)
  clear t1 t2 hs3 hk3 H2 hkw hkx
  go_wp2_with fail
  go_end0
  refine ⟨rfl, ob3, _, H3.out.1, ?_, H3.out.2⟩
  rw [Array.getElem?_setIfInBounds_ne (by decide), Array.getElem?_setIfInBounds_ne (by decide), Array.getElem?_setIfInBounds_ne (by decide), Array.getElem?_setIfInBounds_ne (by decide), Array.getElem?_setIfInBounds_self_of_lt (by omega)]
end Go.Proofs.Sess
namespace Go.Proofs.Sess
open Go Go.RowKit

/-- A row of buffers, as it is read: its cells. -/
theorem bufs_read {w : World} {v : Value} {bs : List Buf} (hv : w.ownsRow 0 39 4 v bs.length (bufsV bs)) :
    ∃ a cap, v = .slice a bs.length cap ∧ ∀ k, k < bs.length → ∃ g, a = some ⟨g, 0, none⟩ ∧ v.ownBlock = some g ∧ ∀ x, bs[k]? = some x → w.cell? ⟨g, k * 4, none⟩ = some (.int .i64 x.kind) ∧ w.cell? ⟨g, k * 4 + 1, none⟩ = some (.int .i64 x.dir) ∧ w.cell? ⟨g, k * 4 + 2, none⟩ = some (.int .i64 x.idx) ∧ w.cell? ⟨g, k * 4 + 3, none⟩ = some (.string x.data) := by
  rcases hv.2 with ⟨hvn, hn0⟩ | ⟨g, cap, cur, hvs, _⟩
  · exact ⟨none, 0, by rw [hvn, hn0], fun k hk => by omega⟩
  · subst hvs
    exact ⟨_, _, rfl, fun k hk => ⟨g, rfl, rfl, fun x hx => row_cells hv (g := g) rfl hx⟩⟩

set_option maxRecDepth 100000 in
set_option maxHeartbeats 4000000 in
/-- Two rows of the same buffers are the same. -/
theorem same_eq (w : World) (va vb : Value) (bs : List Buf) (ha : w.ownsRow 0 39 4 va bs.length (bufsV bs)) (hb : w.ownsRow 0 39 4 vb bs.length (bufsV bs)) (hn : bs.length < 1000000) :
    Calls Tryz.prog 20 #[va, vb] w fun e w' => e = .returned (.bool true) ∧ Keeps [] w w' := by
  obtain ⟨a1, c1, rfl, HA⟩ := bufs_read ha
  obtain ⟨a2, c2, rfl, HB⟩ := bufs_read hb
  have HAH := Lib.hid HA
  have HBH := Lib.hid HB
  clear ha hb HA HB
  go_enter Tryz.func20, Tryz.ntmps20
  go_wp2_with fail
  go_loopw [5] (fun i wr => ∃ k : Nat, k ≤ bs.length ∧ i = .int .i64 k ∧ Keeps [] w wr) (fun i _ => bs.length - (intOf i).toNat)
  case atStart => exact ⟨0, Nat.zero_le _, rfl, Keeps.refl _ _⟩
  case round =>
    obtain ⟨k, hk, rfl, hrel⟩ := hrel
    by_cases hlt : k < bs.length
    · obtain ⟨ga, rfl, _, hca⟩ := HAH.out k hlt
      obtain ⟨gb, rfl, _, hcb⟩ := HBH.out k hlt
      have hx : bs[k]? = some bs[k] := List.getElem?_eq_getElem hlt
      revert hx
      generalize bs[k] = x
      intro hx
      obtain ⟨p0, p1, p2, p3⟩ := hca x hx
      obtain ⟨q0, q1, q2, q3⟩ := hcb x hx
      have hS : (fun wx : World => (wx.cell? ⟨ga, k * 4, none⟩ = some (.int .i64 x.kind) ∧ wx.cell? ⟨ga, k * 4 + 1, none⟩ = some (.int .i64 x.dir) ∧ wx.cell? ⟨ga, k * 4 + 2, none⟩ = some (.int .i64 x.idx) ∧ wx.cell? ⟨ga, k * 4 + 3, none⟩ = some (.string x.data)) ∧ (wx.cell? ⟨gb, k * 4, none⟩ = some (.int .i64 x.kind) ∧ wx.cell? ⟨gb, k * 4 + 1, none⟩ = some (.int .i64 x.dir) ∧ wx.cell? ⟨gb, k * 4 + 2, none⟩ = some (.int .i64 x.idx) ∧ wx.cell? ⟨gb, k * 4 + 3, none⟩ = some (.string x.data))) wr.drew := ⟨⟨hrel.drew.cell p0 (by simp), hrel.drew.cell p1 (by simp), hrel.drew.cell p2 (by simp), hrel.drew.cell p3 (by simp)⟩, ⟨hrel.drew.cell q0 (by simp), hrel.drew.cell q1 (by simp), hrel.drew.cell q2 (by simp), hrel.drew.cell q3 (by simp)⟩⟩
      have HR := Lib.hid hrel
      clear p0 p1 p2 p3 q0 q1 q2 q3 hca hcb hrel
      go_upto_region 6 with fail
      refine wp_region_seq (fun wx : World => (wx.cell? ⟨ga, k * 4, none⟩ = some (.int .i64 x.kind) ∧ wx.cell? ⟨ga, k * 4 + 1, none⟩ = some (.int .i64 x.dir) ∧ wx.cell? ⟨ga, k * 4 + 2, none⟩ = some (.int .i64 x.idx) ∧ wx.cell? ⟨ga, k * 4 + 3, none⟩ = some (.string x.data)) ∧ (wx.cell? ⟨gb, k * 4, none⟩ = some (.int .i64 x.kind) ∧ wx.cell? ⟨gb, k * 4 + 1, none⟩ = some (.int .i64 x.dir) ∧ wx.cell? ⟨gb, k * 4 + 2, none⟩ = some (.int .i64 x.idx) ∧ wx.cell? ⟨gb, k * 4 + 3, none⟩ = some (.string x.data)))
        [(0, 0), (1, 0), (2, 0), (3, 1), (4, 0), (5, 0), (6, 0), (7, 1), (8, 0)]
        [] (by kernel_rfl) (by kernel_rfl) (fun d _ _ _ _ h => by cases d <;> exact h) ?_
      simp only [picks, List.getD_cons_succ, List.getD_cons_zero]
      (refine seq_pure (v := ?_) (by rfl) ?_ ?_; rotate_left; focus (intro wq; first | (go_simp; done) | (go_simp; with_reducible rfl))); (try simp only [Act.put, List.setIfInBounds_toArray, List.set_cons_zero, List.set_cons_succ])
      (refine seq_pure (v := ?_) (by rfl) ?_ ?_; rotate_left; focus (intro wq; first | (go_simp; done) | (go_simp; with_reducible rfl))); (try simp only [Act.put, List.setIfInBounds_toArray, List.set_cons_zero, List.set_cons_succ])
      (refine seq_pure (v := ?_) (by rfl) ?_ ?_; rotate_left; focus (intro wq; first | (go_simp; done) | (go_simp; with_reducible rfl))); (try simp only [Act.put, List.setIfInBounds_toArray, List.set_cons_zero, List.set_cons_succ])
      (refine seq_read (v := ?_) hS (by rfl) ?_ ?_; rotate_left; focus (intro wq hSq; obtain ⟨⟨hq1, hq2, hq3, hq4⟩, ⟨hq5, hq6, hq7, hq8⟩⟩ := hSq; first | (go_simp; done) | (go_simp; with_reducible rfl))); (try simp only [Act.put, List.setIfInBounds_toArray, List.set_cons_zero, List.set_cons_succ])
      (refine seq_pure (v := ?_) (by rfl) ?_ ?_; rotate_left; focus (intro wq; first | (go_simp; done) | (go_simp; with_reducible rfl))); (try simp only [Act.put, List.setIfInBounds_toArray, List.set_cons_zero, List.set_cons_succ])
      (refine seq_pure (v := ?_) (by rfl) ?_ ?_; rotate_left; focus (intro wq; first | (go_simp; done) | (go_simp; with_reducible rfl))); (try simp only [Act.put, List.setIfInBounds_toArray, List.set_cons_zero, List.set_cons_succ])
      (refine seq_pure (v := ?_) (by rfl) ?_ ?_; rotate_left; focus (intro wq; first | (go_simp; done) | (go_simp; with_reducible rfl))); (try simp only [Act.put, List.setIfInBounds_toArray, List.set_cons_zero, List.set_cons_succ])
      (refine seq_read (v := ?_) hS (by rfl) ?_ ?_; rotate_left; focus (intro wq hSq; obtain ⟨⟨hq1, hq2, hq3, hq4⟩, ⟨hq5, hq6, hq7, hq8⟩⟩ := hSq; first | (go_simp; done) | (go_simp; with_reducible rfl))); (try simp only [Act.put, List.setIfInBounds_toArray, List.set_cons_zero, List.set_cons_succ])
      (refine seq_pure (v := ?_) (by rfl) ?_ ?_; rotate_left; focus (intro wq; first | (go_simp; done) | (go_simp; with_reducible rfl))); (try simp only [Act.put, List.setIfInBounds_toArray, List.set_cons_zero, List.set_cons_succ])
      refine seq_nil ?_
      clear hS
      go_wp2_with fail
      go_roundw
      case rel => exact ⟨k + 1, by omega, by go_num, HR.out.drew⟩
      case measure => simp [intOf]; omega
    · have hkn : k = bs.length := by omega
      subst hkn
      have HR := Lib.hid hrel
      clear hrel
      go_wp2_with fail
      go_ret
      exact ⟨rfl, HR.out⟩
end Go.Proofs.Sess
namespace Go.Proofs.Sess
open Go Go.RowKit

/-- A row that lies whole in a block of its own. -/
theorem own_of_block {w : World} {g n : Nat} {e : TypeId} {size : Nat} {cur : Array Value} {xs : List Value} (h : w.heap[g]? = some (.cells cur e (0, 0))) (hx : cur.toList = xs) (hl : xs.length = n * size) (hn : n ≤ maxLen) :
    w.ownsRow 0 e size (.slice (some ⟨g, 0, none⟩) n n) n xs := by
  refine ⟨hl, .inr ⟨g, n, cur, rfl, Nat.zero_le _, h, Nat.le_refl _, hn, ?_, ?_⟩⟩
  · rw [← hl, ← hx]; simp
  · rw [hx, ← hl]; exact List.take_length

def zeroF : Int → Int → Int := fun _ _ => 0
def bufsGet : List Buf := [⟨3, 1, 0, ⟨#[71, 69, 84]⟩⟩, ⟨4, 1, 0, ⟨#[47, 97]⟩⟩]
def bufsAbcd : List Buf := [⟨1, 1, 0, ⟨#[97, 98, 99, 100]⟩⟩]

theorem cntLe_zero : CntLe (fun _ _ => 0) 0 := fun _ _ => ⟨Int.le_refl _, Int.le_refl _⟩

/-- What Feed gives to a session that has become HTTP. -/
def FedGet (w : World) (b mb wb : Nat) (v : Value) (w' : World) : Prop :=
  ∃ cs' f', SessAt w' b mb none cs' f' [] ∧ cs'[1]? = some (.int .i64 1) ∧ w'.ownsRow 0 39 4 v 2 (bufsV bufsGet) ∧ Keeps [b, mb, wb] w w'

theorem feed_get (w : World) (b mb w1 w2 : Nat) (b1 b2 : Int) (h : SessAt w b mb none (SessCells0 6 b1 b2 mb w1 w2) (fun _ _ => 0) []) (hw : w.heap[w1]? = some (WinObj 1 1 0 0 (.slice none 0 0))) (hwb : w1 ≠ b) (hwm : w1 ≠ mb) :
    Calls Tryz.prog 17 #[.pointer (some ⟨b, 0, none⟩), .int .i64 0, .int .i64 1, .string ⟨#[71, 69, 84, 32, 47, 97, 32, 72, 84, 84, 80, 47, 49, 46, 49, 13, 10, 13, 10]⟩] w (fun e w' => ∃ v, e = .returned v ∧ FedGet w b mb w1 v w') := by
  have hlt := h.lt
  have hml := h.ltm
  refine (feed_unsure w b mb w1 _ _ _ (fun W v w5 => ∃ cs' f', SessAt w5 b mb none cs' f' [] ∧ cs'[1]? = some (.int .i64 1) ∧ w5.ownsRow 0 39 4 v 2 (bufsV bufsGet) ∧ ∀ S, (∀ k, k ∈ [b, mb] → k ∈ S) → Keeps S w W → Keeps S w w5) 0 h rfl rfl rfl rfl rfl rfl rfl rfl rfl rfl cntLe_zero (by decide) hw hwb hwm (by decide) (by decide) ?_).mono ?_
  · intro W hA
    obtain ⟨⟨ob, hs, hob⟩, _, hk⟩ := hA
    refine (recognize_get W b mb ob _ _ 0 hs (by decide) (by decide) rfl rfl rfl rfl rfl rfl rfl rfl rfl rfl rfl rfl).mono ?_
    rintro e w4 ⟨rfl, ob', cs', t1, t2, t3⟩
    refine ⟨rfl, (take_sess w4 b mb ob' _ _ _ t1).mono ?_⟩
    rintro e w5 ⟨v, rfl, u1, u2, u3, u4⟩
    refine ⟨v, rfl, cs', _, u1, t2, u2, fun S hS hSW => ?_⟩
    refine (hSW.trans t3 ?_).trans u4 (by intro x hx _; simp at hx; subst hx; exact hS _ (by simp))
    intro x hx hl
    simp [foot] at hx
    rcases hx with hx | hx | hx
    · subst hx; exact hS _ (by simp)
    · subst hx; exact hS _ (by simp)
    · exact hS _ ((hob x hx).resolve_right (by omega))
  · rintro e w' ⟨W, v, rfl, hA, cs', f', r1, r2, r3, r4⟩
    exact ⟨v, rfl, cs', f', r1, r2, r3, r4 [b, mb, w1] (by simp) hA.keeps⟩

def CellsAbcd (b1 b2 : Int) (mb w1 w2 : Nat) : Array Value :=
  (((((((SessCells0 6 b1 b2 mb w1 w2).setIfInBounds 31 (.int .i64 0)).setIfInBounds 20 (.string ⟨#[97, 98, 99, 100]⟩)).setIfInBounds 1 (.int .i64 0)).setIfInBounds 2 (.bool true)).setIfInBounds 20 (.string ⟨#[]⟩)).setIfInBounds 25 (.string ⟨#[]⟩))

theorem cellsAbcd_at (b1 b2 : Int) (mb w1 w2 : Nat) : (CellsAbcd b1 b2 mb w1 w2)[0]? = some (.int .i64 6) ∧ (CellsAbcd b1 b2 mb w1 w2)[1]? = some (.int .i64 0) ∧ (CellsAbcd b1 b2 mb w1 w2)[2]? = some (.bool true) ∧ (CellsAbcd b1 b2 mb w1 w2)[9]? = some (.bool false) ∧ (CellsAbcd b1 b2 mb w1 w2)[19]? = some (.pointer (some ⟨w1, 0, none⟩)) ∧ (CellsAbcd b1 b2 mb w1 w2)[21]? = some (.bool false) ∧ (CellsAbcd b1 b2 mb w1 w2)[22]? = some (.bool false) ∧ (CellsAbcd b1 b2 mb w1 w2)[27]? = some (.bool false) ∧ (CellsAbcd b1 b2 mb w1 w2)[29]? = some .nilIface ∧ (CellsAbcd b1 b2 mb w1 w2)[31]? = some (.int .i64 0) := by
  refine ⟨?_, ?_, ?_, ?_, ?_, ?_, ?_, ?_, ?_, ?_⟩ <;> unfold CellsAbcd <;> (repeat (first | rw [Array.getElem?_setIfInBounds_ne (by decide)] | rw [Array.getElem?_setIfInBounds_self_of_lt (by simp only [Array.size_setIfInBounds]; decide)])) <;> rfl

/-- What Feed gives to a session whose first bytes say nothing. -/
structure FedAbcd (w : World) (b mb wb : Nat) (b1 b2 : Int) (w' : World) : Prop where
  sess : ∃ ob cs', SessAt w' b mb ob cs' (fun _ _ => 0) [] ∧ cs'[0]? = some (.int .i64 6) ∧ cs'[1]? = some (.int .i64 0) ∧ cs'[2]? = some (.bool true) ∧ cs'[9]? = some (.bool false) ∧ cs'[19]? = some (.pointer (some ⟨wb, 0, none⟩)) ∧ cs'[21]? = some (.bool false) ∧ cs'[22]? = some (.bool false) ∧ cs'[27]? = some (.bool false) ∧ cs'[29]? = some .nilIface ∧ cs'[31]? = some (.int .i64 0) ∧ wb ∉ foot b mb ob ∧ (∀ k ∈ foot b mb ob, k ∈ [b, mb] ∨ w.heap.size ≤ k)
  win : ∃ g c, w.heap.size ≤ g ∧ g < w'.heap.size ∧ w'.heap[wb]? = some (WinObj 1 1 0 0 (.slice (some ⟨g, 0, none⟩) 4 c)) ∧ Lib.Bytes w' g 0 ⟨#[97, 98, 99, 100]⟩
  keeps : Keeps [b, mb, wb] w w'

theorem feed_abcd (w : World) (b mb w1 w2 : Nat) (b1 b2 : Int) (h : SessAt w b mb none (SessCells0 6 b1 b2 mb w1 w2) (fun _ _ => 0) []) (hw : w.heap[w1]? = some (WinObj 1 1 0 0 (.slice none 0 0))) (hwb : w1 ≠ b) (hwm : w1 ≠ mb) :
    Calls Tryz.prog 17 #[.pointer (some ⟨b, 0, none⟩), .int .i64 0, .int .i64 1, .string ⟨#[97, 98, 99, 100]⟩] w (fun e w' => ∃ v, e = .returned v ∧ w'.ownsRow 0 39 4 v 0 [] ∧ FedAbcd w b mb w1 b1 b2 w') := by
  have hlt := h.lt
  have hml := h.ltm
  have hwl := lt_of_heap hw
  refine (feed_unsure w b mb w1 _ _ _ (fun W v w5 => ∃ ob w4, SessAt W b mb ob (((SessCells0 6 b1 b2 mb w1 w2).setIfInBounds 31 (.int .i64 0)).setIfInBounds 20 (.string ⟨#[97, 98, 99, 100]⟩)) (fun _ _ => 0) [] ∧ (∀ k, ob = some k → k ∈ [b, mb] ∨ w.heap.size ≤ k) ∧ Keeps [b] W w4 ∧ Keeps [b] w4 w5 ∧ SessAt w5 b mb none (CellsAbcd b1 b2 mb w1 w2) (fun _ _ => 0) [] ∧ w5.ownsRow 0 39 4 v 0 []) 0 h rfl rfl rfl rfl rfl rfl rfl rfl rfl rfl cntLe_zero (by decide) hw hwb hwm (by decide) (by decide) ?_).mono ?_
  · intro W hA
    obtain ⟨⟨ob, hs, hob⟩, _, hk⟩ := hA
    refine (recognize_abcd W b mb ob _ _ [] 0 hs rfl rfl rfl rfl rfl rfl rfl rfl).mono ?_
    rintro e w4 ⟨rfl, t1, t2⟩
    refine ⟨rfl, (take_sess w4 b mb ob _ _ _ t1).mono ?_⟩
    rintro e w5 ⟨v, rfl, u1, u2, u3, u4⟩
    exact ⟨v, rfl, ob, w4, hs, hob, t2, u4, u1, u2⟩
  · rintro e w' ⟨W, v, rfl, ⟨_, ⟨g, c, hg, hwin, hby⟩, hk⟩, ob, w4, hs, hob, t2, u4, u1, u2⟩
    have hk5 : Keeps [b] W w' := t2.trans u4 (fun _ h _ => h)
    have hgb : g ∉ [b] := by simp; omega
    have hgl : g < W.heap.size := by
      have := hby 0 (by decide)
      exact World.block_lt_of_cell? W _ this
    obtain ⟨a0, a1, a2, a9, a19, a21, a22, a27, a29, a31⟩ := cellsAbcd_at b1 b2 mb w1 w2
    have hfo : w1 ∉ foot b mb none := by simp [foot]; exact ⟨hwb, hwm⟩
    have hwin' := hk5.heap hwin (by simpa using hwb)
    refine ⟨v, rfl, u2, ⟨⟨none, CellsAbcd b1 b2 mb w1 w2, u1, a0, a1, a2, a9, a19, a21, a22, a27, a29, a31, hfo, fun k hk => .inl (by simpa [foot] using hk)⟩, ⟨g, c, hg, Nat.lt_of_lt_of_le hgl hk5.size, hwin', fun j hj => hk5.cell (hby j hj) hgb⟩, hk.trans hk5 (by simp)⟩⟩
end Go.Proofs.Sess
namespace Go.Proofs.Sess
open Go Go.RowKit

set_option maxRecDepth 100000 in
set_option maxHeartbeats 8000000 in
/-- The examples of the chapter hold. -/
theorem awake_true (w : World) : Calls Tryz.prog 10 #[] w fun e w' => e = .returned (.bool true) ∧ Keeps [] w w' := by
  have hT := toList_mk
  go_enter Tryz.func10, Tryz.ntmps10
  go_upto_region 2 with (go_at_call 12; refine (sessNew_nil _ 1000 10).mono ?_; rintro e w1 ⟨rfl, hq⟩; have H1 := Lib.hid hq; clear hq)
  have hz1 : w.heap.size + 5 < w1.heap.size := lt_of_heap H1.out.2.2.1
  have HF := Lib.hid (feed_get w1 (w.heap.size + 2) (w.heap.size + 1) (w.heap.size + 4) (w.heap.size + 5) 1000 10 H1.out.1 H1.out.2.1 (by omega) (by omega))
  go_upto_region 3 with (go_at_call 17; refine HF.out.mono ?_; rintro e w2 ⟨v, rfl, cs2, f2, q1, q2, q3, q4⟩; have H2 := Lib.hid (And.intro q1 (And.intro q2 (And.intro q3 q4))); clear q1 q2 q3 q4 HF)
  have hk2 : Keeps [] w w2 := H1.out.2.2.2.trans H2.out.2.2.2 (by intro x hx hl; simp at hx; omega)
  have hka : Keeps [] w2 (w2.alloc (.cells #[.int .i64 3, .int .i64 1, .int .i64 0, .string ⟨#[71, 69, 84]⟩, .int .i64 4, .int .i64 1, .int .i64 0, .string ⟨#[47, 97]⟩] 39)) := (Keeps.refl _ _).alloc _
  have HS := Lib.hid (same_eq _ v (.slice (some ⟨w2.heap.size, 0, none⟩) 2 2) bufsGet (hka.own H2.out.2.2.1 (by simp)) (own_of_block (cur := #[.int .i64 3, .int .i64 1, .int .i64 0, .string ⟨#[71, 69, 84]⟩, .int .i64 4, .int .i64 1, .int .i64 0, .string ⟨#[47, 97]⟩]) heap_alloc_self rfl rfl (by unfold maxLen; decide)) (by decide))
  have H3 := Lib.hid (And.intro hk2 hka)
  clear hk2 hka
  go_wp2_with (first
    | (go_at_call 20; refine HS.out.mono ?_; rintro e w3 ⟨rfl, hq⟩; have H4 := Lib.hid hq; clear hq)
    | (go_at_call 19; refine (app_sess w3 (w.heap.size + 2) (w.heap.size + 1) none cs2 f2 [] 1 ((H2.out.1.keep H3.out.2 (by simp)).keep H4.out (by simp)) H2.out.2.1).mono ?_; rintro e w4 ⟨rfl, rfl⟩)
    | (go_at_call 12; refine (sessNew_nil _ 1000 10).mono ?_; rintro e w5 ⟨rfl, hq⟩; have H5 := Lib.hid hq; clear hq
       have hz5 : w3.heap.size + 5 < w5.heap.size := lt_of_heap H5.out.2.2.1
       have HF := Lib.hid (feed_abcd w5 (w3.heap.size + 2) (w3.heap.size + 1) (w3.heap.size + 4) (w3.heap.size + 5) 1000 10 H5.out.1 H5.out.2.1 (by omega) (by omega)))
    | (go_at_call 17; refine HF.out.mono ?_; rintro e w6 ⟨v6, rfl, q1, q2⟩; have H6 := Lib.hid (And.intro q1 q2); clear q1 q2 HF
       obtain ⟨ob, cs6, s0, s1, s2, s3, s4, s5, s6, s7, s8, s9, s10, s11, s12⟩ := H6.out.2.sess
       obtain ⟨g, c, t1, t2, t3, t4⟩ := H6.out.2.win
       have hfin := finish_raw w6 (w3.heap.size + 2) (w3.heap.size + 1) (w3.heap.size + 4) g 0 c ob cs6 (fun _ _ => 0) ⟨#[97, 98, 99, 100]⟩ 0 0 s0 s1 s2 s3 s4 s5 s6 s7 s8 s9 s10 cntLe_zero (by decide) t3 t4 t2 (by omega) s11 (by decide)
       have hv6 : v6 = .slice none 0 0 ∨ ∃ a c, v6 = .slice (some a) 0 c := by
         rcases H6.out.1.2 with ⟨h, _⟩ | ⟨g, c, _, h, _⟩
         · exact .inl h
         · exact .inr ⟨_, _, h⟩
       have HFin := Lib.hid (And.intro hfin s12)
       have HV := Lib.hid hv6
       clear s0 s1 s2 s3 s4 s5 s6 s7 s8 s9 s10 s11 s12 t1 t2 t3 t4 hfin hv6)
    | (go_at_call 16; refine HFin.out.1.mono ?_; rintro e w7 ⟨v7, cs7, rfl, q1, q2, q3, q4⟩; have H7 := Lib.hid (And.intro q1 (And.intro q2 (And.intro q3 q4))); clear q1 q2 q3 q4))
  obtain ⟨a6, c6, hv6⟩ : ∃ a c, v6 = .slice a 0 c := by
    rcases HV.out with h | ⟨a, c, h⟩
    · exact ⟨none, 0, h⟩
    · exact ⟨_, _, h⟩
  subst hv6
  have hkb : Keeps [] w7 (w7.alloc (.cells #[.int .i64 1, .int .i64 1, .int .i64 0, .string ⟨#[97, 98, 99, 100]⟩] 39)) := (Keeps.refl _ _).alloc _
  have HS2 := Lib.hid (same_eq _ v7 (.slice (some ⟨w7.heap.size, 0, none⟩) 1 1) bufsAbcd (hkb.own H7.out.2.2.1 (by simp)) (own_of_block (cur := #[.int .i64 1, .int .i64 1, .int .i64 0, .string ⟨#[97, 98, 99, 100]⟩]) heap_alloc_self rfl rfl (by unfold maxLen; decide)) (by decide))
  have HKB := Lib.hid hkb
  clear hkb
  go_simp
  go_wp2_with (first
    | (go_at_call 20; refine HS2.out.mono ?_; rintro e w8 ⟨rfl, hq⟩; have H8 := Lib.hid hq; clear hq)
    | (go_at_call 19; refine (app_sess w8 (w3.heap.size + 2) (w3.heap.size + 1) none cs7 _ [] 0 ((H7.out.1.keep HKB.out (by simp)).keep H8.out (by simp)) H7.out.2.1).mono ?_; rintro e w9 ⟨rfl, rfl⟩))
  go_ret
  refine ⟨rfl, ?_⟩
  have k3 : Keeps [] w w3 := (H3.out.1.trans H3.out.2 (by simp)).trans H4.out (by simp)
  have k5 : Keeps [] w w5 := k3.trans H5.out.2.2.2 (by simp)
  have hz3 := k3.size
  have k6 : Keeps [] w w6 := k5.trans H6.out.2.keeps (by intro x hx hl; simp at hx; omega)
  have k7 : Keeps [] w w7 := k6.trans H7.out.2.2.2 (by
    intro x hx hl
    rcases List.mem_append.1 hx with h | h
    · simp at h; omega
    · rcases HFin.out.2 x h with h | h
      · simp at h; omega
      · have := k5.size; omega)
  exact (k7.trans HKB.out (by simp)).trans H8.out (by simp)
end Go.Proofs.Sess
namespace Go.Proofs.Sess
open Go Go.RowKit

set_option maxRecDepth 100000 in
set_option maxHeartbeats 4000000 in
/-- A nil session yields nothing. -/
theorem none_law (w : World) (k a d n : Int) (s : ByteArray) : Calls Tryz.prog 9 #[.agg #[.int .i64 k, .int .i64 a, .int .i64 d, .int .i64 n, .string s]] w fun e w' => e = .returned (.bool true) ∧ Keeps [] w w' := by
  have hk0 : Keeps [] w (w.alloc (.cells #[.int .i64 k, .int .i64 a, .int .i64 d, .int .i64 n, .string s] 37)) := (Keeps.refl _ _).alloc _
  have hb : (w.alloc (.cells #[.int .i64 k, .int .i64 a, .int .i64 d, .int .i64 n, .string s] 37)).heap[w.heap.size]? = some (.cells #[.int .i64 k, .int .i64 a, .int .i64 d, .int .i64 n, .string s] 37 (0, 0)) := heap_alloc_self
  have HK := Lib.hid (And.intro hk0 hb)
  clear hk0 hb
  go_enter Tryz.func9, Tryz.ntmps9
  go_wp2_with (first
    | (go_at_call 10; refine (awake_true _).mono ?_; rintro e w1 ⟨rfl, hq⟩
       have hb1 := hq.heap HK.out.2 (by simp)
       have c0 : w1.cell? ⟨w.heap.size, 0, none⟩ = some (.int .i64 k) := cell_of_heap hb1 rfl
       have c1 : w1.cell? ⟨w.heap.size, 1, none⟩ = some (.int .i64 a) := cell_of_heap hb1 rfl
       have c2 : w1.cell? ⟨w.heap.size, 2, none⟩ = some (.int .i64 d) := cell_of_heap hb1 rfl
       have c3 : w1.cell? ⟨w.heap.size, 3, none⟩ = some (.int .i64 n) := cell_of_heap hb1 rfl
       have c4 : w1.cell? ⟨w.heap.size, 4, none⟩ = some (.string s) := cell_of_heap hb1 rfl
       have H1 := Lib.hid hq
       clear hq hb1)
    | (go_at_call 13; refine (one_nil k a d n s _).mono ?_; rintro e w2 ⟨rfl, hq⟩; have H2 := Lib.hid hq; clear hq)
    | (go_at_call 19; refine (app_nil _).mono ?_; rintro e w3 ⟨rfl, rfl⟩)
    | (go_at_call 15; refine (size_nil _).mono ?_; rintro e w3 ⟨rfl, rfl⟩))
  go_ret
  exact ⟨rfl, (HK.out.1.trans H1.out (by simp)).trans H2.out (by simp)⟩
end Go.Proofs.Sess
