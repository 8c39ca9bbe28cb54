/- The calls of a session of datagrams, on the side of the program. -/
import Derived.Test.YtkaafdoplemjhaaGreatDoorSessQB1
import Derived.Test.YtkaafdoplemjhaaGreatDoorSessQB2
namespace Go.Proofs.Sess
open Go Go.RowKit

/-- The cells of a session of datagrams. -/
structure UCs (cs : Array Value) (app : Int) (e1 e2 : Bool) (wa wb : Nat) : Prop where
  p : cs[0]? = some (.int .i64 17)
  a : cs[1]? = some (.int .i64 app)
  o1 : ∃ o : Bool, cs[7]? = some (.bool o)
  o2 : ∃ o : Bool, cs[8]? = some (.bool o)
  o3 : ∃ o : Bool, cs[9]? = some (.bool o)
  w1 : cs[19]? = some (.pointer (some ⟨wa, 0, none⟩))
  s1 : cs[20]? = some (.string ⟨#[]⟩)
  e1 : cs[22]? = some (.bool e1)
  w2 : cs[24]? = some (.pointer (some ⟨wb, 0, none⟩))
  s2 : cs[25]? = some (.string ⟨#[]⟩)
  e2 : cs[27]? = some (.bool e2)
  par : cs[29]? = some .nilIface
  last : ∃ n : Int, cs[31]? = some (.int .i64 n)

theorem UCs.set {cs : Array Value} {app : Int} {x1 x2 : Bool} {wa wb : Nat} (h : UCs cs app x1 x2 wa wb) (hs : cs.size = 32) (n : Int) : UCs (cs.setIfInBounds 31 (.int .i64 n)) app x1 x2 wa wb := by
  have g : ∀ i, i ≠ 31 → (cs.setIfInBounds 31 (.int .i64 n))[i]? = cs[i]? := fun i hi => Array.getElem?_setIfInBounds_ne (Ne.symm hi)
  exact ⟨(g _ (by decide)).trans h.p, (g _ (by decide)).trans h.a, by rw [g _ (by decide)]; exact h.o1, by rw [g _ (by decide)]; exact h.o2, by rw [g _ (by decide)]; exact h.o3, (g _ (by decide)).trans h.w1, (g _ (by decide)).trans h.s1, (g _ (by decide)).trans h.e1, (g _ (by decide)).trans h.w2, (g _ (by decide)).trans h.s2, (g _ (by decide)).trans h.e2, (g _ (by decide)).trans h.par, ⟨n, by rw [Array.getElem?_setIfInBounds_self_of_lt (by omega)]⟩⟩
theorem UCs.end1 {cs : Array Value} {app : Int} {x1 x2 : Bool} {wa wb : Nat} (h : UCs cs app x1 x2 wa wb) (hs : cs.size = 32) : UCs (cs.setIfInBounds 22 (.bool true)) app true x2 wa wb := by
  have g : ∀ i, i ≠ 22 → (cs.setIfInBounds 22 (.bool true))[i]? = cs[i]? := fun i hi => Array.getElem?_setIfInBounds_ne (Ne.symm hi)
  exact ⟨(g _ (by decide)).trans h.p, (g _ (by decide)).trans h.a, by rw [g _ (by decide)]; exact h.o1, by rw [g _ (by decide)]; exact h.o2, by rw [g _ (by decide)]; exact h.o3, (g _ (by decide)).trans h.w1, (g _ (by decide)).trans h.s1, by rw [Array.getElem?_setIfInBounds_self_of_lt (by omega)], (g _ (by decide)).trans h.w2, (g _ (by decide)).trans h.s2, (g _ (by decide)).trans h.e2, (g _ (by decide)).trans h.par, by rw [g _ (by decide)]; exact h.last⟩
theorem UCs.end2 {cs : Array Value} {app : Int} {x1 x2 : Bool} {wa wb : Nat} (h : UCs cs app x1 x2 wa wb) (hs : cs.size = 32) : UCs (cs.setIfInBounds 27 (.bool true)) app x1 true wa wb := by
  have g : ∀ i, i ≠ 27 → (cs.setIfInBounds 27 (.bool true))[i]? = cs[i]? := fun i hi => Array.getElem?_setIfInBounds_ne (Ne.symm hi)
  exact ⟨(g _ (by decide)).trans h.p, (g _ (by decide)).trans h.a, by rw [g _ (by decide)]; exact h.o1, by rw [g _ (by decide)]; exact h.o2, by rw [g _ (by decide)]; exact h.o3, (g _ (by decide)).trans h.w1, (g _ (by decide)).trans h.s1, (g _ (by decide)).trans h.e1, (g _ (by decide)).trans h.w2, (g _ (by decide)).trans h.s2, by rw [Array.getElem?_setIfInBounds_self_of_lt (by omega)], (g _ (by decide)).trans h.par, by rw [g _ (by decide)]; exact h.last⟩
theorem UCs.off {cs : Array Value} {app : Int} {x1 x2 : Bool} {wa wb : Nat} (h : UCs cs app x1 x2 wa wb) (hs : cs.size = 32) (k : Int) (o : Bool) : UCs (offC cs k o) app x1 x2 wa wb := by
  unfold offC
  by_cases hk : k = 1 ∨ k = 2 ∨ k = 3
  · rw [if_pos hk]
    have hj : 7 ≤ 6 + k.toNat ∧ 6 + k.toNat ≤ 9 := by omega
    generalize 6 + k.toNat = j at hj
    have g : ∀ i, i ≠ j → (cs.setIfInBounds j (.bool o))[i]? = cs[i]? := fun i hi => Array.getElem?_setIfInBounds_ne (Ne.symm hi)
    have q : ∀ i, 7 ≤ i → i ≤ 9 → (∃ x : Bool, cs[i]? = some (.bool x)) → ∃ x : Bool, (cs.setIfInBounds j (.bool o))[i]? = some (.bool x) := fun i h1 h2 h3 => by
      by_cases hij : i = j
      · subst hij; exact ⟨o, by rw [Array.getElem?_setIfInBounds_self_of_lt (by omega)]⟩
      · rw [g i hij]; exact h3
    exact ⟨(g _ (by omega)).trans h.p, (g _ (by omega)).trans h.a, q _ (by omega) (by omega) h.o1, q _ (by omega) (by omega) h.o2, q _ (by omega) (by omega) h.o3, (g _ (by omega)).trans h.w1, (g _ (by omega)).trans h.s1, (g _ (by omega)).trans h.e1, (g _ (by omega)).trans h.w2, (g _ (by omega)).trans h.s2, (g _ (by omega)).trans h.e2, (g _ (by omega)).trans h.par, by rw [g _ (by omega)]; exact h.last⟩
  · rw [if_neg hk]; exact h

/-- What a datagram reports. -/
def pktEv (app dir : Int) (s : ByteArray) : List Ev := ⟨2, dir, s⟩ :: (if app = 4 then msgEv dir s else [])
theorem pktEv_len (app dir : Int) (s : ByteArray) : (pktEv app dir s).length ≤ 41 := by
  unfold pktEv
  have := msgEv_len dir s
  split <;> simp; omega

set_option maxRecDepth 100000 in
set_option maxHeartbeats 1600000 in
theorem feed_no (w : World) (b mb : Nat) (ob : Option Nat) (cs : Array Value) (f : Int → Int → Int) (l : List Buf) (at_ dir : Int) (s : ByteArray) (e1 e2 : Bool)
    (h : SessAt w b mb ob cs f l) (h22 : cs[22]? = some (.bool e1)) (h27 : cs[27]? = some (.bool e2)) (hno : usableB dir e1 e2 = false ∨ s.size = 0) :
    Calls Tryz.prog 17 #[.pointer (some ⟨b, 0, none⟩), .int .i64 at_, .int .i64 dir, .string s] w fun e w' => e = .returned (.slice none 0 0) ∧ w = w' := by
  have H := Lib.hid h
  have H22 := Lib.hid h22
  have H27 := Lib.hid h27
  clear h h22 h27
  cases hu : usableB dir e1 e2
  · go_enter Tryz.func17, Tryz.ntmps17
    go_wp2_with (go_at_call 31; refine (usable_sess _ b mb ob cs f l dir e1 e2 H.out H22.out H27.out).mono ?_; rintro e w' ⟨rfl, rfl⟩)
    go_ret
    exact ⟨rfl, rfl⟩
  · have hs' := toList_nil (hno.resolve_left (by rw [hu]; simp))
    clear hno
    go_enter Tryz.func17, Tryz.ntmps17
    go_wp2_with (go_at_call 31; refine (usable_sess _ b mb ob cs f l dir e1 e2 H.out H22.out H27.out).mono ?_; rintro e w' ⟨rfl, rfl⟩)
    go_ret
    exact ⟨rfl, rfl⟩

set_option maxRecDepth 100000 in
set_option maxHeartbeats 4000000 in
theorem feed_udp (w : World) (b mb wa wb : Nat) (cs : Array Value) (f : Int → Int → Int) (at_ dir app : Int) (s : ByteArray) (e1 e2 : Bool) (N : Int) (B : Nat)
    (h : SessAt w b mb none cs f []) (hc : UCs cs app e1 e2 wa wb) (hf : CntLe f N) (hN : N < 90000) (hu : usableB dir e1 e2 = true) (hs : s.size ≠ 0) (hs1 : s.size < 1000000)
    (ht : TabIn B w) (hB : ∀ k ∈ foot b mb none, B ≤ k) (hBw : B ≤ w.heap.size) :
    Calls Tryz.prog 17 #[.pointer (some ⟨b, 0, none⟩), .int .i64 at_, .int .i64 dir, .string s] w fun e w' => ∃ n : Int, Gave w b mb none (cs.setIfInBounds 31 (.int .i64 n)) f (pktEv app dir s) e w' := by
  have hse : s.toList.isEmpty = false := toList_some hs
  obtain ⟨l0, c31'⟩ := hc.last
  have c31 := h.cell (by decide) c31'
  have f31 := h.free 31
  have c0 := h.cell (by decide) hc.p
  have c1 := h.cell (by decide) hc.a
  have hst := h.store (o := 31) (by decide) (by decide) (.int .i64 (max at_ 0))
  have hkm : Mod (foot b mb none) (foot b mb none) w (w.setCell ⟨b, 31, none⟩ (.int .i64 (max at_ 0))) := ⟨(Keeps.refl _ _).setCell (by simp [foot]) _, fun _ h => .inl h⟩
  have d0 := hst.cell (o := 0) (by decide) (hc.set h.size _).p
  have d1 := hst.cell (o := 1) (by decide) (hc.set h.size _).a
  have HT := Lib.hid (ht.keep hkm.keeps hB)
  have H := Lib.hid (And.intro h (And.intro hst hkm))
  have HC := Lib.hid hc
  have HF := Lib.hid hf
  have HB := Lib.hid hB
  clear h hc hst hkm hf ht hB c31' hs
  go_enter Tryz.func17, Tryz.ntmps17
  go_wp2_with (first
    | (go_at_call 31; refine (usable_sess _ b mb none cs f [] dir e1 e2 H.out.1 HC.out.e1 HC.out.e2).mono ?_; rintro e w' ⟨rfl, rfl⟩))
  have hcf := HF.out 2 dir
  refine (put_sess _ b mb none _ f [] 2 dir s H.out.2.1 (by simp) hcf.1 (by omega)).mono ?_
  rintro e w2 ⟨rfl, ob2, hs2, hm2⟩
  have g1 := hs2.cell (o := 1) (by decide) (HC.out.set H.out.1.size _).a
  have hf2 := HF.out.bump 2 dir
  have hB2 : ∀ k ∈ foot b mb ob2, B ≤ k := fun k hk => by
    rcases (H.out.2.2.trans hm2).grow k hk with h1 | h1
    · exact HB.out k h1
    · omega
  have ht2 := HT.out.keep hm2.keeps HB.out
  have H2 := Lib.hid (And.intro hs2 (And.intro hm2 (And.intro hf2 (And.intro hB2 ht2))))
  clear hs2 hm2 hf2 hB2 ht2 hcf
  by_cases happ : app = 4
  · subst happ
    go_wp2_with (first
      | (go_at_call 37; refine (message_sess _ b mb ob2 _ _ _ dir s (N + 1) B H2.out.1 H2.out.2.2.1 (by omega) (by simp) hs1 H2.out.2.2.2.2 H2.out.2.2.2.1).mono ?_; rintro e w3 ⟨rfl, ob3, hs3, hm3⟩; have H3 := Lib.hid (And.intro hs3 hm3); clear hs3 hm3)
      | (go_at_call 35; refine (take_sess _ b mb ob3 _ _ _ H3.out.1).mono ?_; rintro e w4 ht; have HG := Lib.hid (gave_of_taken (es := pktEv 4 dir s) H3.out.1 ((H.out.2.2.trans H2.out.2.1).trans H3.out.2) ht); obtain ⟨v, rfl, _⟩ := ht))
    go_ret
    exact ⟨_, HG.out⟩
  · have happ' : (app == 4) = false := by simpa using happ
    have hpe : pktEv app dir s = [⟨2, dir, s⟩] := by unfold pktEv; rw [if_neg happ]
    have HP := Lib.hid hpe
    clear hpe happ
    go_wp2_with (go_at_call 35; refine (take_sess _ b mb ob2 _ _ _ H2.out.1).mono ?_; rintro e w4 ht; have HG := Lib.hid (gave_of_taken (es := [⟨2, dir, s⟩]) H2.out.1 (H.out.2.2.trans H2.out.2.1) ht); obtain ⟨v, rfl, _⟩ := ht)
    go_ret
    exact ⟨_, by rw [HP.out]; exact HG.out⟩

set_option maxRecDepth 100000 in
set_option maxHeartbeats 1600000 in
theorem gap_udp (w : World) (b mb wa wb : Nat) (ob : Option Nat) (cs : Array Value) (f : Int → Int → Int) (l : List Buf) (dir n app : Int) (e1 e2 : Bool)
    (h : SessAt w b mb ob cs f l) (hc : UCs cs app e1 e2 wa wb) :
    Calls Tryz.prog 24 #[.pointer (some ⟨b, 0, none⟩), .int .i64 dir, .int .i64 n] w fun e w' => e = .returned (.slice none 0 0) ∧ w = w' := by
  have c0 := h.cell (by decide) hc.p
  have HU := Lib.hid (usable_sess w b mb ob cs f l dir e1 e2 h hc.e1 hc.e2)
  clear h hc
  cases hu : usableB dir e1 e2
  · rw [hu] at HU
    go_enter Tryz.func24, Tryz.ntmps24
    go_wp2_with (go_at_call 31; refine HU.out.mono ?_; rintro e w' ⟨rfl, rfl⟩)
    go_ret
    exact ⟨rfl, rfl⟩
  · rw [hu] at HU
    by_cases hn : n < 1
    · go_enter Tryz.func24, Tryz.ntmps24
      go_wp2_with (go_at_call 31; refine HU.out.mono ?_; rintro e w' ⟨rfl, rfl⟩)
      go_ret
      exact ⟨rfl, rfl⟩
    · go_enter Tryz.func24, Tryz.ntmps24
      go_wp2_with (go_at_call 31; refine HU.out.mono ?_; rintro e w' ⟨rfl, rfl⟩)
      go_ret
      exact ⟨rfl, rfl⟩

/-- What the end of a direction leaves. -/
def endE (dir : Int) (e1 e2 : Bool) : Bool × Bool := if usableB dir e1 e2 then (if dir = 1 then (true, e2) else (e1, true)) else (e1, e2)

set_option maxRecDepth 100000 in
set_option maxHeartbeats 1600000 in
theorem finish_udp (w : World) (b mb wa wb : Nat) (ob : Option Nat) (cs : Array Value) (f : Int → Int → Int) (l : List Buf) (at_ dir app : Int) (e1 e2 : Bool)
    (h : SessAt w b mb ob cs f l) (hc : UCs cs app e1 e2 wa wb) :
    Calls Tryz.prog 16 #[.pointer (some ⟨b, 0, none⟩), .int .i64 at_, .int .i64 dir] w fun e w' => e = .returned (.slice none 0 0) ∧ ∃ cs', SessAt w' b mb ob cs' f l ∧ UCs cs' app (endE dir e1 e2).1 (endE dir e1 e2).2 wa wb ∧ Mod (foot b mb ob) (foot b mb ob) w w' := by
  have c0 := h.cell (by decide) hc.p
  have HU := Lib.hid (usable_sess w b mb ob cs f l dir e1 e2 h hc.e1 hc.e2)
  have H := Lib.hid (And.intro h hc)
  have c22 := h.cell (by decide) hc.e1
  have c27 := h.cell (by decide) hc.e2
  have f22 := h.free 22
  have f27 := h.free 27
  clear h hc
  unfold endE
  cases hu : usableB dir e1 e2
  · rw [hu] at HU
    rw [if_neg (by simp)]
    go_enter Tryz.func16, Tryz.ntmps16
    go_wp2_with (go_at_call 31; refine HU.out.mono ?_; rintro e w' ⟨rfl, rfl⟩)
    go_ret
    exact ⟨rfl, cs, H.out.1, H.out.2, Mod.refl _ _⟩
  · rw [hu] at HU
    rw [if_pos rfl]
    rcases usableB_spec.1 hu with ⟨rfl, rfl⟩ | ⟨rfl, rfl⟩
    · have hst := H.out.1.store (o := 22) (by decide) (by decide) (.bool true)
      have d0 := hst.cell (o := 0) (by decide) (H.out.2.end1 H.out.1.size).p
      have HS := Lib.hid hst
      clear hst
      rw [if_pos rfl]
      go_enter Tryz.func16, Tryz.ntmps16
      go_wp2_with (go_at_call 31; refine HU.out.mono ?_; rintro e w' ⟨rfl, rfl⟩)
      go_ret
      exact ⟨rfl, _, HS.out, H.out.2.end1 H.out.1.size, (Keeps.refl _ _).setCell (by simp [foot]) _, fun _ h => .inl h⟩
    · have hst := H.out.1.store (o := 27) (by decide) (by decide) (.bool true)
      have d0 := hst.cell (o := 0) (by decide) (H.out.2.end2 H.out.1.size).p
      have HS := Lib.hid hst
      clear hst
      rw [if_neg (by decide)]
      go_enter Tryz.func16, Tryz.ntmps16
      go_wp2_with (go_at_call 31; refine HU.out.mono ?_; rintro e w' ⟨rfl, rfl⟩)
      go_ret
      exact ⟨rfl, _, HS.out, H.out.2.end2 H.out.1.size, (Keeps.refl _ _).setCell (by simp [foot]) _, fun _ h => .inl h⟩
end Go.Proofs.Sess
