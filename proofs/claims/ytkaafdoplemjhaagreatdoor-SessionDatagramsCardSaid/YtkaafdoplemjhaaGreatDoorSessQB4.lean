/- A part of the proof that a session of datagrams answers as the reference (SessionDatagrams). Its contents: contracts of functions of the program, each stated with its premises. -/
import Derived.Test.YtkaafdoplemjhaaGreatDoorSessQB3
import Derived.Deep.QuietTactic
import Derived.BigQuiet
import Derived.Test.YtkaafdoplemjhaaGreatDoorSessQA9
import Derived.Deep.DeepCutAuto
import Derived.Deep.CutBlock
namespace Go.Proofs.Sess
open Go Go.RowKit

theorem winSize (w : World) (wa : Nat) (k d : Int) (i n : Nat) (h : w.heap[wa]? = some (WinObj k d i n (.slice none 0 0))) :
    Calls Tryz.prog 30 #[.pointer (some ⟨wa, 0, none⟩)] w fun e w' => e = .returned (.int .i64 0) ∧ w' = w := by
  have c4 : w.cell? ⟨wa, 4, none⟩ = some (.slice none 0 0) := cell_of_heap h rfl
  clear h
  go_enter Tryz.func30, Tryz.ntmps30
  go_wp2_with fail
  go_ret
  exact ⟨rfl, rfl⟩

theorem Keeps.drewN {S : List Nat} {a w : World} (h : Keeps S a w) (n : Nat) : Keeps S a (w.drewN n) := ⟨h.os, h.tape, h.output, h.size, h.block⟩

set_option maxRecDepth 100000 in
set_option maxHeartbeats 4000000 in
theorem size_udp (w : World) (b mb wa wb : Nat) (ob : Option Nat) (cs : Array Value) (f : Int → Int → Int) (l : List Buf) (app : Int) (e1 e2 : Bool) (d1 d2 : Int)
    (h : SessAt w b mb ob cs f l) (hc : UCs cs app e1 e2 wa wb) (hwa : w.heap[wa]? = some (WinObj 1 d1 0 0 (.slice none 0 0))) (hwb : w.heap[wb]? = some (WinObj 1 d2 0 0 (.slice none 0 0))) :
    Calls Tryz.prog 15 #[.pointer (some ⟨b, 0, none⟩)] w fun e w' => e = .returned (.int .i64 0) ∧ Keeps [] w w' := by
  have c13 := h.cell (by decide) h.h13
  have c19 := h.cell (by decide) hc.w1
  have c20 := h.cell (by decide) hc.s1
  have hbl := h.lt
  have HW := Lib.hid (And.intro h (And.intro hc (And.intro hwa hwb)))
  clear h hc hwa hwb
  have hmn := fun (w : World) (r : Option Nat) => run_eql_map_nil (P := Tryz.prog) w 50 111 3 r Tryz.underlying50
  go_enter Tryz.func15, Tryz.ntmps15
  go_wp2_with fail
  refine wp_loop_rounds 3 ?_
  rw [rounds_succ]
  go_wp2_with fail
  go_quiet ((go_at_call 30; exact Calls.quiet_of_same (winSize _ _ _ _ _ _ ((heap_alloc_far (lt_of_heap HW.out.2.2.1)).trans HW.out.2.2.1))))
  have k1 : Keeps [] w ((w.alloc (Obj.cells #[Value.int IntKind.i64 1, Value.int IntKind.i64 2] 3)).drewN nq) := ((Keeps.refl _ _).alloc _).drewN _
  have hz : ((w.alloc (Obj.cells #[Value.int IntKind.i64 1, Value.int IntKind.i64 2] 3)).drewN nq).heap[w.heap.size]? = some (.cells #[Value.int IntKind.i64 1, Value.int IntKind.i64 2] 3 (0, 0)) := heap_alloc_self
  have K1 := Lib.hid (And.intro k1 hz)
  clear k1 hz c13 c19 c20 hbl
  revert K1
  generalize (w.alloc (Obj.cells #[Value.int IntKind.i64 1, Value.int IntKind.i64 2] 3)).drewN nq = W1
  intro K1
  generalize w.heap.size = hz at *
  have h1 := HW.out.1.keep (S := []) K1.out.1 (by simp)
  have c24 := h1.cell (by decide) HW.out.2.1.w2
  have c25 := h1.cell (by decide) HW.out.2.1.s2
  have l1 : W1.cell? ⟨hz, 1, none⟩ = some (.int .i64 2) := cell_of_heap K1.out.2 rfl
  clear h1
  go_wp2_with fail
  rw [rounds_succ]
  go_wp2_with fail
  go_quiet ((go_at_call 30; exact Calls.quiet_of_same (winSize _ _ _ _ _ _ (K1.out.1.heap HW.out.2.2.2 (by simp)))))
  have k2 := K1.out.1.drewN nq
  have K2 := Lib.hid k2
  clear k2 c24 c25 l1
  revert K2
  generalize W1.drewN nq = W2
  intro K2
  have h2 := HW.out.1.keep (S := []) K2.out (by simp)
  have c29 := h2.cell (by decide) HW.out.2.1.par
  clear h2
  go_wp2_with fail
  rw [rounds_succ]
  go_wp2_with fail
  go_ret
  exact ⟨rfl, K2.out⟩
end Go.Proofs.Sess
namespace Go.Proofs.Sess
open Go Go.RowKit

/-- What a call reports, and what it ends. -/
def uEv (app : Int) (e1 e2 : Bool) (k d : Int) (s : ByteArray) : List Ev :=
  if (k = 0 ∨ k = 4) ∧ usableB d e1 e2 = true ∧ s.size ≠ 0 then (if k = 0 then pktEv app d s else [⟨18, d, s⟩]) else []
def uEnd (e1 e2 : Bool) (k d : Int) : Bool × Bool := if k = 2 then endE d e1 e2 else (e1, e2)
theorem uEv_len (app : Int) (e1 e2 : Bool) (k d : Int) (s : ByteArray) : (uEv app e1 e2 k d s).length ≤ 41 := by
  unfold uEv
  have := pktEv_len app d s
  split
  · split
    · exact this
    · simp
  · simp

def UDone (w : World) (b mb : Nat) (f : Int → Int → Int) (app : Int) (wa wb : Nat) (es : List Ev) (x : Bool × Bool) (e : Ending) (w' : World) : Prop :=
  ∃ v cs', e = .returned v ∧ SessAt w' b mb none cs' (evF f es) [] ∧ UCs cs' app x.1 x.2 wa wb ∧ w'.ownsRow 0 39 4 v es.length (bufsV (evB f es)) ∧ (∀ g, v.ownBlock = some g → w.heap.size ≤ g) ∧ Keeps [b, mb] w w'

theorem UDone.nil {w w' : World} {b mb : Nat} {f : Int → Int → Int} {app : Int} {wa wb : Nat} {x : Bool × Bool} {cs : Array Value} (h : SessAt w' b mb none cs f []) (hc : UCs cs app x.1 x.2 wa wb) (hk : Keeps [b, mb] w w') :
    UDone w b mb f app wa wb [] x (.returned (.slice none 0 0)) w' :=
  ⟨_, cs, rfl, h, hc, World.ownsRow_nil _ _ _ _, (fun g hg => by cases hg), hk⟩
theorem UDone.gave {w w1 w' : World} {b mb : Nat} {f : Int → Int → Int} {app : Int} {wa wb : Nat} {x : Bool × Bool} {cs : Array Value} {es : List Ev} {e : Ending} (h : Gave w1 b mb none cs f es e w') (hc : UCs cs app x.1 x.2 wa wb) (hk : Keeps [] w w1) :
    UDone w b mb f app wa wb es x e w' := by
  obtain ⟨v, h1, h2, h3, h4, h5⟩ := h
  refine ⟨v, cs, h1, h2, hc, h3, fun g hg => ?_, (hk.mono (by simp)).trans h5.keeps (fun y hy _ => by simpa [foot] using hy)⟩
  rcases (h4 g hg).2 with h6 | h6
  · cases h6
  · exact Nat.le_trans hk.size h6

set_option maxRecDepth 100000 in
set_option maxHeartbeats 4000000 in
theorem one_udp (w : World) (b mb wa wb : Nat) (cs : Array Value) (f : Int → Int → Int) (k a d n app : Int) (s : ByteArray) (e1 e2 : Bool) (N : Int) (B : Nat)
    (h : SessAt w b mb none cs f []) (hc : UCs cs app e1 e2 wa wb) (hf : CntLe f N) (hN : N < 90000) (hs1 : s.size < 1000000)
    (ht : TabIn B w) (hB : ∀ k ∈ foot b mb none, B ≤ k) (hBw : B ≤ w.heap.size) :
    Calls Tryz.prog 13 #[.pointer (some ⟨b, 0, none⟩), .agg #[.int .i64 k, .int .i64 a, .int .i64 d, .int .i64 n, .string s]] w (UDone w b mb f app wa wb (uEv app e1 e2 k d s) (uEnd e1 e2 k d)) := by
  have hk1 : Keeps [] w (w.alloc (.cells #[.int .i64 k, .int .i64 a, .int .i64 d, .int .i64 n, .string s] 37)) := (Keeps.refl _ _).alloc _
  have hs2 := h.keep (S := []) hk1 (by simp)
  have H := Lib.hid (And.intro hs2 (And.intro hc (And.intro hf (And.intro (ht.keep hk1 (by simp)) (And.intro hB hk1)))))
  have hBw2 : B ≤ (w.alloc (.cells #[.int .i64 k, .int .i64 a, .int .i64 d, .int .i64 n, .string s] 37)).heap.size := by simp; omega
  have HBW := Lib.hid hBw2
  have hk0 : Keeps [b, mb] w (w.alloc (.cells #[.int .i64 k, .int .i64 a, .int .i64 d, .int .i64 n, .string s] 37)) := hk1.mono (by simp)
  have HK0 := Lib.hid hk0
  clear h hc hf ht hB hBw hk1 hs2 hBw2 hk0
  by_cases k0 : k = 0
  · subst k0
    have he : uEnd e1 e2 0 d = (e1, e2) := rfl
    rw [he]
    clear he
    by_cases hu : usableB d e1 e2 = true ∧ s.size ≠ 0
    · have hev : uEv app e1 e2 0 d s = pktEv app d s := by unfold uEv; rw [if_pos ⟨.inl rfl, hu⟩, if_pos rfl]
      rw [hev]
      clear hev
      have HU := Lib.hid hu
      clear hu
      go_enter Tryz.func13, Tryz.ntmps13
      go_wp2_with (go_at_call 17; refine (feed_udp _ b mb wa wb cs f a d app s e1 e2 N B H.out.1 H.out.2.1 H.out.2.2.1 hN HU.out.1 HU.out.2 hs1 H.out.2.2.2.1 H.out.2.2.2.2.1 HBW.out).mono ?_; rintro e w2 ⟨m, hg⟩; have HG := Lib.hid hg; obtain ⟨v, rfl, _⟩ := hg)
      go_ret
      exact UDone.gave HG.out (H.out.2.1.set H.out.1.size _) H.out.2.2.2.2.2
    · have hev : uEv app e1 e2 0 d s = [] := by unfold uEv; rw [if_neg (fun h => hu h.2)]
      rw [hev]
      clear hev
      have hno : usableB d e1 e2 = false ∨ s.size = 0 := by
        by_cases h1 : usableB d e1 e2 = true
        · by_cases h2 : s.size = 0
          · exact .inr h2
          · exact absurd ⟨h1, h2⟩ hu
        · left; simpa using h1
      have HN := Lib.hid hno
      clear hno hu
      go_enter Tryz.func13, Tryz.ntmps13
      go_wp2_with (go_at_call 17; refine (feed_no _ b mb none cs f [] a d s e1 e2 H.out.1 H.out.2.1.e1 H.out.2.1.e2 HN.out).mono ?_; rintro e w2 ⟨rfl, rfl⟩)
      go_ret
      exact UDone.nil H.out.1 H.out.2.1 HK0.out
  · by_cases k4 : k = 4
    · subst k4
      clear k0
      have he : uEnd e1 e2 4 d = (e1, e2) := rfl
      rw [he]
      clear he
      by_cases hu : usableB d e1 e2 = true ∧ s.size ≠ 0
      · have hev : uEv app e1 e2 4 d s = [⟨18, d, s⟩] := by unfold uEv; rw [if_pos ⟨.inr rfl, hu⟩, if_neg (by decide)]
        rw [hev]
        clear hev
        have HU := Lib.hid hu
        clear hu
        go_enter Tryz.func13, Tryz.ntmps13
        go_wp2_with (go_at_call 18; refine (note_yes _ b mb none cs f d s e1 e2 N H.out.1 H.out.2.1.e1 H.out.2.1.e2 H.out.2.2.1 (by omega) HU.out.1 HU.out.2).mono ?_; rintro e w2 hg; have HG := Lib.hid hg; obtain ⟨v, rfl, _⟩ := hg)
        go_ret
        exact UDone.gave HG.out H.out.2.1 H.out.2.2.2.2.2
      · have hev : uEv app e1 e2 4 d s = [] := by unfold uEv; rw [if_neg (fun h => hu h.2)]
        rw [hev]
        clear hev
        have hno : usableB d e1 e2 = false ∨ s.size = 0 := by
          by_cases h1 : usableB d e1 e2 = true
          · by_cases h2 : s.size = 0
            · exact .inr h2
            · exact absurd ⟨h1, h2⟩ hu
          · left; simpa using h1
        have HN := Lib.hid hno
        clear hno hu
        go_enter Tryz.func13, Tryz.ntmps13
        go_wp2_with (go_at_call 18; refine (note_no _ b mb none cs f [] d s e1 e2 H.out.1 H.out.2.1.e1 H.out.2.1.e2 HN.out).mono ?_; rintro e w2 ⟨rfl, rfl⟩)
        go_ret
        exact UDone.nil H.out.1 H.out.2.1 HK0.out
    · have hev : uEv app e1 e2 k d s = [] := by unfold uEv; rw [if_neg (fun h => h.1.elim k0 k4)]
      rw [hev]
      clear hev
      by_cases k2 : k = 2
      · subst k2
        have he : uEnd e1 e2 2 d = endE d e1 e2 := rfl
        rw [he]
        clear he k0 k4
        go_enter Tryz.func13, Tryz.ntmps13
        go_wp2_with (go_at_call 16; refine (finish_udp _ b mb wa wb none cs f [] a d app e1 e2 H.out.1 H.out.2.1).mono ?_; rintro e w2 ⟨rfl, cs', h1, h2, h3⟩; have HG := Lib.hid (And.intro h1 (And.intro h2 h3)); clear h1 h2 h3)
        go_ret
        exact UDone.nil HG.out.1 HG.out.2.1 (HK0.out.trans HG.out.2.2.keeps (fun y hy _ => by simpa [foot] using hy))
      · have he : uEnd e1 e2 k d = (e1, e2) := by unfold uEnd; rw [if_neg k2]
        rw [he]
        clear he
        by_cases k1 : k = 1
        · subst k1
          clear k0 k4 k2
          go_enter Tryz.func13, Tryz.ntmps13
          go_wp2_with (go_at_call 24; refine (gap_udp _ b mb wa wb none cs f [] d n app e1 e2 H.out.1 H.out.2.1).mono ?_; rintro e w2 ⟨rfl, rfl⟩)
          go_ret
          exact UDone.nil H.out.1 H.out.2.1 HK0.out
        · by_cases k3 : k = 3
          · subst k3
            clear k0 k4 k2 k1
            obtain ⟨o1, q1⟩ := H.out.2.1.o1
            obtain ⟨o2, q2⟩ := H.out.2.1.o2
            obtain ⟨o3, q3⟩ := H.out.2.1.o3
            have HO := Lib.hid (And.intro q1 (And.intro q2 q3))
            clear q1 q2 q3
            go_enter Tryz.func13, Tryz.ntmps13
            go_wp2_with (go_at_call 25; refine (off_sess _ b mb none cs f [] n (d == 1) _ _ _ H.out.1 HO.out.1 HO.out.2.1 HO.out.2.2).mono ?_; rintro e w2 ⟨rfl, h1, h2⟩; have HG := Lib.hid (And.intro h1 h2); clear h1 h2)
            go_ret
            exact UDone.nil HG.out.1 (H.out.2.1.off H.out.1.size _ _) (HK0.out.trans HG.out.2.keeps (fun y hy _ => by simpa [foot] using hy))
          · have q0 : (k == 0) = false := by simpa using k0
            have q1 : (k == 1) = false := by simpa using k1
            have q2 : (k == 2) = false := by simpa using k2
            have q3 : (k == 3) = false := by simpa using k3
            have q4 : (k == 4) = false := by simpa using k4
            clear k0 k1 k2 k3 k4
            go_enter Tryz.func13, Tryz.ntmps13
            go_wp2_with fail
            go_ret
            exact UDone.nil H.out.1 H.out.2.1 HK0.out
end Go.Proofs.Sess
/- The reference's session of datagrams. -/
namespace Go.Proofs.Sess
open Go Go.RowKit

structure RefAt (w : World) (b : Nat) (cs : Array Value) (f : Int → Int → Int) (app : Int) (e1 e2 : Bool) : Prop where
  heap : w.heap[b]? = some (.cells cs 107 (0, 0))
  size : cs.size = 75
  p : cs[0]? = some (.int .i64 17)
  a : cs[1]? = some (.int .i64 app)
  cnt : ∀ k d : Nat, k ≤ 18 → d < 2 → cs[5 + d * 19 + k]? = some (.int .i64 (f (k : Int) ((d : Int) + 1)))
  e1 : cs[45]? = some (.bool e1)
  e2 : cs[46]? = some (.bool e2)
  s1 : cs[49]? = some (.string ⟨#[]⟩)
  s2 : cs[50]? = some (.string ⟨#[]⟩)
  last : ∃ n : Int, cs[52]? = some (.int .i64 n)
  n1 : ∃ o : Bool, cs[53]? = some (.bool o)
  n2 : ∃ o : Bool, cs[54]? = some (.bool o)
  n3 : ∃ o : Bool, cs[55]? = some (.bool o)
  tw : cs[72]? = some (.string ⟨#[]⟩)

theorem RefAt.keep {w w' : World} {b : Nat} {cs : Array Value} {f : Int → Int → Int} {app : Int} {e1 e2 : Bool} (h : RefAt w b cs f app e1 e2) {S : List Nat} (hk : Keeps S w w') (hS : b ∉ S) : RefAt w' b cs f app e1 e2 :=
  ⟨hk.heap h.heap hS, h.size, h.p, h.a, h.cnt, h.e1, h.e2, h.s1, h.s2, h.last, h.n1, h.n2, h.n3, h.tw⟩
theorem RefAt.cell {w : World} {b : Nat} {cs : Array Value} {f : Int → Int → Int} {app : Int} {e1 e2 : Bool} (h : RefAt w b cs f app e1 e2) {o : Nat} {v : Value} (hv : cs[o]? = some v) : w.cell? ⟨b, o, none⟩ = some v := cell_of_heap h.heap hv
theorem RefAt.free {w : World} {b : Nat} {cs : Array Value} {f : Int → Int → Int} {app : Int} {e1 e2 : Bool} (h : RefAt w b cs f app e1 e2) (o : Nat) : w.frozen? ⟨b, o, none⟩ = false := free_of_heap h.heap

/-- A count goes up. -/
theorem RefAt.bump {w : World} {b : Nat} {cs : Array Value} {f : Int → Int → Int} {app : Int} {e1 e2 : Bool} (h : RefAt w b cs f app e1 e2) {k d : Nat} (hk : k ≤ 18) (hd : d < 2) {n : Int} (hn : n = f (k : Int) ((d : Int) + 1) + 1) :
    RefAt (w.setCell ⟨b, 5 + d * 19 + k, none⟩ (.int .i64 n)) b (cs.setIfInBounds (5 + d * 19 + k) (.int .i64 n)) (bump f (k : Int) ((d : Int) + 1)) app e1 e2 := by
  have hsz := h.size
  have hlt : 5 + d * 19 + k < 43 := by omega
  have g : ∀ i, i < 5 ∨ 43 ≤ i → (cs.setIfInBounds (5 + d * 19 + k) (.int .i64 n))[i]? = cs[i]? := fun i hi => Array.getElem?_setIfInBounds_ne (by omega)
  refine ⟨heap_setCell_self h.heap _, by simp [hsz], (g _ (by omega)).trans h.p, (g _ (by omega)).trans h.a, fun k' d' hk' hd' => ?_, (g _ (by omega)).trans h.e1, (g _ (by omega)).trans h.e2, (g _ (by omega)).trans h.s1, (g _ (by omega)).trans h.s2, by rw [g _ (by omega)]; exact h.last, by rw [g _ (by omega)]; exact h.n1, by rw [g _ (by omega)]; exact h.n2, by rw [g _ (by omega)]; exact h.n3, (g _ (by omega)).trans h.tw⟩
  by_cases he : k' = k ∧ d' = d
  · obtain ⟨rfl, rfl⟩ := he
    rw [Array.getElem?_setIfInBounds_self_of_lt (by omega)]
    unfold Sess.bump
    rw [if_pos ⟨rfl, rfl⟩, hn]
  · rw [Array.getElem?_setIfInBounds_ne (by omega), h.cnt k' d' hk' hd']
    unfold Sess.bump
    rw [if_neg (fun hh => he (by omega))]
/-- A store into a cell that the calls of datagrams do not read, or of the same kind. -/
theorem RefAt.store {w : World} {b : Nat} {cs : Array Value} {f : Int → Int → Int} {app : Int} {e1 e2 : Bool} (h : RefAt w b cs f app e1 e2) {o : Nat} {v : Value}
    (ho : (o = 52 ∧ ∃ n : Int, v = .int .i64 n) ∨ ((o = 53 ∨ o = 54 ∨ o = 55) ∧ ∃ x : Bool, v = .bool x)) :
    RefAt (w.setCell ⟨b, o, none⟩ v) b (cs.setIfInBounds o v) f app e1 e2 := by
  have hsz := h.size
  have g : ∀ i, i ≠ o → (cs.setIfInBounds o v)[i]? = cs[i]? := fun i hi => Array.getElem?_setIfInBounds_ne (Ne.symm hi)
  have hb : 52 ≤ o ∧ o ≤ 55 := by omega
  have q : ∀ i, 53 ≤ i → i ≤ 55 → (∃ x : Bool, cs[i]? = some (.bool x)) → ∃ x : Bool, (cs.setIfInBounds o v)[i]? = some (.bool x) := fun i h1 h2 h3 => by
    by_cases hij : i = o
    · subst hij
      rcases ho with ⟨ho, _⟩ | ⟨_, x, rfl⟩
      · omega
      · exact ⟨x, by rw [Array.getElem?_setIfInBounds_self_of_lt (by omega)]⟩
    · rw [g i hij]; exact h3
  refine ⟨heap_setCell_self h.heap _, by simp [hsz], (g _ (by omega)).trans h.p, (g _ (by omega)).trans h.a, fun k d hk hd => (g _ (by omega)).trans (h.cnt k d hk hd), (g _ (by omega)).trans h.e1, (g _ (by omega)).trans h.e2, (g _ (by omega)).trans h.s1, (g _ (by omega)).trans h.s2, ?_, q _ (by omega) (by omega) h.n1, q _ (by omega) (by omega) h.n2, q _ (by omega) (by omega) h.n3, (g _ (by omega)).trans h.tw⟩
  by_cases h52 : o = 52
  · subst h52
    rcases ho with ⟨_, n, rfl⟩ | ⟨ho, _⟩
    · exact ⟨n, by rw [Array.getElem?_setIfInBounds_self_of_lt (by omega)]⟩
    · omega
  · rw [g _ (Ne.symm h52)]; exact h.last
theorem RefAt.end1 {w : World} {b : Nat} {cs : Array Value} {f : Int → Int → Int} {app : Int} {e1 e2 : Bool} (h : RefAt w b cs f app e1 e2) :
    RefAt (w.setCell ⟨b, 45, none⟩ (.bool true)) b (cs.setIfInBounds 45 (.bool true)) f app true e2 := by
  have hsz := h.size
  have g : ∀ i, i ≠ 45 → (cs.setIfInBounds 45 (.bool true))[i]? = cs[i]? := fun i hi => Array.getElem?_setIfInBounds_ne (Ne.symm hi)
  exact ⟨heap_setCell_self h.heap _, by simp [hsz], (g _ (by omega)).trans h.p, (g _ (by omega)).trans h.a, fun k d hk hd => (g _ (by omega)).trans (h.cnt k d hk hd), by rw [Array.getElem?_setIfInBounds_self_of_lt (by omega)], (g _ (by omega)).trans h.e2, (g _ (by omega)).trans h.s1, (g _ (by omega)).trans h.s2, by rw [g _ (by omega)]; exact h.last, by rw [g _ (by omega)]; exact h.n1, by rw [g _ (by omega)]; exact h.n2, by rw [g _ (by omega)]; exact h.n3, (g _ (by omega)).trans h.tw⟩
theorem RefAt.end2 {w : World} {b : Nat} {cs : Array Value} {f : Int → Int → Int} {app : Int} {e1 e2 : Bool} (h : RefAt w b cs f app e1 e2) :
    RefAt (w.setCell ⟨b, 46, none⟩ (.bool true)) b (cs.setIfInBounds 46 (.bool true)) f app e1 true := by
  have hsz := h.size
  have g : ∀ i, i ≠ 46 → (cs.setIfInBounds 46 (.bool true))[i]? = cs[i]? := fun i hi => Array.getElem?_setIfInBounds_ne (Ne.symm hi)
  exact ⟨heap_setCell_self h.heap _, by simp [hsz], (g _ (by omega)).trans h.p, (g _ (by omega)).trans h.a, fun k d hk hd => (g _ (by omega)).trans (h.cnt k d hk hd), (g _ (by omega)).trans h.e1, by rw [Array.getElem?_setIfInBounds_self_of_lt (by omega)], (g _ (by omega)).trans h.s1, (g _ (by omega)).trans h.s2, by rw [g _ (by omega)]; exact h.last, by rw [g _ (by omega)]; exact h.n1, by rw [g _ (by omega)]; exact h.n2, by rw [g _ (by omega)]; exact h.n3, (g _ (by omega)).trans h.tw⟩

/-- What buffer gives. -/
def RBuf (w : World) (b : Nat) (f : Int → Int → Int) (app : Int) (e1 e2 : Bool) (kind dir : Int) (s : ByteArray) (e : Ending) (w' : World) : Prop :=
  e = .returned (.agg #[.int .i64 kind, .int .i64 dir, .int .i64 (f kind dir), .string (cutS s)]) ∧ ∃ cs', RefAt w' b cs' (bump f kind dir) app e1 e2 ∧ Keeps [b] w w'

set_option maxRecDepth 100000 in
set_option maxHeartbeats 4000000 in
theorem refbuf1 (w : World) (b : Nat) (cs : Array Value) (f : Int → Int → Int) (app : Int) (e1 e2 : Bool) (k : Nat) (s : ByteArray) (N : Int)
    (h : RefAt w b cs f app e1 e2) (hk : k ≤ 18) (hf : CntLe f N) (hN : N < 1000000) :
    Calls Tryz.prog 77 #[.pointer (some ⟨b, 0, none⟩), .int .i64 (k : Int), .int .i64 1, .string s] w (RBuf w b f app e1 e2 (k : Int) 1 s) := by
  have hc : cs[5 + k]? = some (.int .i64 (f (k : Int) 1)) := h.cnt k 0 hk (by omega)
  have hb : RefAt (w.setCell ⟨b, 5 + k, none⟩ (.int .i64 (f (k : Int) 1 + 1))) b (cs.setIfInBounds (5 + k) (.int .i64 (f (k : Int) 1 + 1))) (bump f (k : Int) 1) app e1 e2 := h.bump hk (d := 0) (by omega) rfl
  have c0 := h.cell hc
  have f0 := h.free (5 + k)
  have hcn := hf (k : Int) 1
  have hbl := lt_of_heap h.heap
  have H := Lib.hid (And.intro hb (show Keeps [b] w (w.setCell ⟨b, 5 + k, none⟩ (.int .i64 (f (k : Int) 1 + 1))) from (Keeps.refl _ _).setCell (by simp) _))
  clear h hb hc hf
  by_cases hs : (1024 : Int) < (s.size : Int)
  · have HS := Lib.hid (show cutS s = s.extract 0 1024 by unfold cutS; rw [if_neg (by omega)])
    go_enter Tryz.func77, Tryz.ntmps77
    go_wp2_with fail
    refine bodyPost_ret (v := .agg #[.int .i64 (k : Int), .int .i64 1, .int .i64 (f (k : Int) 1), .string (s.extract 0 1024)]) ?_ rfl ⟨by rw [HS.out], _, H.out.1.keep (S := []) ((Keeps.refl _ _).alloc _) (by simp), H.out.2.alloc _⟩
    simp only [results, show Tryz.f77.results = #[ResultVar.cell 8 39] from rfl]
    go_simp
  · have HS := Lib.hid (show cutS s = s by unfold cutS; rw [if_pos (by omega)])
    go_enter Tryz.func77, Tryz.ntmps77
    go_wp2_with fail
    refine bodyPost_ret (v := .agg #[.int .i64 (k : Int), .int .i64 1, .int .i64 (f (k : Int) 1), .string s]) ?_ rfl ⟨by rw [HS.out], _, H.out.1.keep (S := []) ((Keeps.refl _ _).alloc _) (by simp), H.out.2.alloc _⟩
    simp only [results, show Tryz.f77.results = #[ResultVar.cell 8 39] from rfl]
    go_simp
set_option maxRecDepth 100000 in
set_option maxHeartbeats 4000000 in
theorem refbuf2 (w : World) (b : Nat) (cs : Array Value) (f : Int → Int → Int) (app : Int) (e1 e2 : Bool) (k : Nat) (s : ByteArray) (N : Int)
    (h : RefAt w b cs f app e1 e2) (hk : k ≤ 18) (hf : CntLe f N) (hN : N < 1000000) :
    Calls Tryz.prog 77 #[.pointer (some ⟨b, 0, none⟩), .int .i64 (k : Int), .int .i64 2, .string s] w (RBuf w b f app e1 e2 (k : Int) 2 s) := by
  have hc : cs[24 + k]? = some (.int .i64 (f (k : Int) 2)) := h.cnt k 1 hk (by omega)
  have hb : RefAt (w.setCell ⟨b, 24 + k, none⟩ (.int .i64 (f (k : Int) 2 + 1))) b (cs.setIfInBounds (24 + k) (.int .i64 (f (k : Int) 2 + 1))) (bump f (k : Int) 2) app e1 e2 := h.bump hk (d := 1) (by omega) rfl
  have c0 := h.cell hc
  have f0 := h.free (24 + k)
  have hcn := hf (k : Int) 2
  have hbl := lt_of_heap h.heap
  have H := Lib.hid (And.intro hb (show Keeps [b] w (w.setCell ⟨b, 24 + k, none⟩ (.int .i64 (f (k : Int) 2 + 1))) from (Keeps.refl _ _).setCell (by simp) _))
  clear h hb hc hf
  by_cases hs : (1024 : Int) < (s.size : Int)
  · have HS := Lib.hid (show cutS s = s.extract 0 1024 by unfold cutS; rw [if_neg (by omega)])
    go_enter Tryz.func77, Tryz.ntmps77
    go_wp2_with fail
    refine bodyPost_ret (v := .agg #[.int .i64 (k : Int), .int .i64 2, .int .i64 (f (k : Int) 2), .string (s.extract 0 1024)]) ?_ rfl ⟨by rw [HS.out], _, H.out.1.keep (S := []) ((Keeps.refl _ _).alloc _) (by simp), H.out.2.alloc _⟩
    simp only [results, show Tryz.f77.results = #[ResultVar.cell 8 39] from rfl]
    go_simp
  · have HS := Lib.hid (show cutS s = s by unfold cutS; rw [if_pos (by omega)])
    go_enter Tryz.func77, Tryz.ntmps77
    go_wp2_with fail
    refine bodyPost_ret (v := .agg #[.int .i64 (k : Int), .int .i64 2, .int .i64 (f (k : Int) 2), .string s]) ?_ rfl ⟨by rw [HS.out], _, H.out.1.keep (S := []) ((Keeps.refl _ _).alloc _) (by simp), H.out.2.alloc _⟩
    simp only [results, show Tryz.f77.results = #[ResultVar.cell 8 39] from rfl]
    go_simp

theorem refbuf (w : World) (b : Nat) (cs : Array Value) (f : Int → Int → Int) (app : Int) (e1 e2 : Bool) (k : Nat) (dir : Int) (s : ByteArray) (N : Int)
    (h : RefAt w b cs f app e1 e2) (hk : k ≤ 18) (hd : dir = 1 ∨ dir = 2) (hf : CntLe f N) (hN : N < 1000000) :
    Calls Tryz.prog 77 #[.pointer (some ⟨b, 0, none⟩), .int .i64 (k : Int), .int .i64 dir, .string s] w (RBuf w b f app e1 e2 (k : Int) dir s) := by
  rcases hd with rfl | rfl
  · exact refbuf1 w b cs f app e1 e2 k s N h hk hf hN
  · exact refbuf2 w b cs f app e1 e2 k s N h hk hf hN

/-- What one gives. -/
def ROne (w : World) (b : Nat) (f : Int → Int → Int) (app : Int) (e1 e2 : Bool) (es : List Ev) (e : Ending) (w' : World) : Prop :=
  ∃ v cs', e = .returned v ∧ RefAt w' b cs' (evF f es) app e1 e2 ∧ w'.ownsRow w.heap.size 39 4 v es.length (bufsV (evB f es)) ∧ Keeps [b] w w'

set_option maxHeartbeats 800000 in
theorem refone (w : World) (b : Nat) (cs : Array Value) (f : Int → Int → Int) (app : Int) (e1 e2 : Bool) (k : Nat) (dir : Int) (s : ByteArray) (N : Int)
    (h : RefAt w b cs f app e1 e2) (hk : k ≤ 18) (hd : dir = 1 ∨ dir = 2) (hf : CntLe f N) (hN : N < 1000000) :
    Calls Tryz.prog 70 #[.pointer (some ⟨b, 0, none⟩), .int .i64 (k : Int), .int .i64 dir, .string s] w (ROne w b f app e1 e2 [⟨(k : Int), dir, s⟩]) := by
  have HB := Lib.hid (refbuf w b cs f app e1 e2 k dir s N h hk hd hf hN)
  clear h hd hf
  go_enter Tryz.func70, Tryz.ntmps70
  go_wp2_with (go_at_call 77; refine HB.out.mono ?_; rintro e w1 ⟨rfl, cs', h1, h2⟩; have H1 := Lib.hid (And.intro h1 h2); clear h1 h2)
  go_ret
  refine ⟨_, cs', rfl, H1.out.1.keep (S := []) ((Keeps.refl _ _).alloc _) (by simp), ⟨rfl, .inr ⟨w1.heap.size, 1, _, rfl, H1.out.2.size, heap_alloc_self, Nat.le_refl _, by unfold maxLen; omega, rfl, rfl⟩⟩, H1.out.2.alloc _⟩

theorem refright (w : World) (b : Nat) (cs : Array Value) (f : Int → Int → Int) (app dir : Int) (e1 e2 : Bool) (h : RefAt w b cs f app e1 e2) :
    Calls Tryz.prog 69 #[.pointer (some ⟨b, 0, none⟩), .int .i64 dir] w fun e w' => e = .returned (.bool (usableB dir e1 e2)) ∧ w = w' := by
  have c1 := h.cell h.e1
  have c2 := h.cell h.e2
  clear h
  by_cases h1 : dir = 1
  · subst h1
    go_enter Tryz.func69, Tryz.ntmps69
    go_wp2_with fail
    go_ret
    exact ⟨by simp [usableB], rfl⟩
  · by_cases h2 : dir = 2
    · subst h2
      go_enter Tryz.func69, Tryz.ntmps69
      go_wp2_with fail
      go_ret
      exact ⟨by simp [usableB], rfl⟩
    · have e1' : (dir == 1) = false := by simpa using h1
      have e2' : (dir == 2) = false := by simpa using h2
      go_enter Tryz.func69, Tryz.ntmps69
      go_wp2_with fail
      go_ret
      exact ⟨by simp [usableB, e1', e2'], rfl⟩
end Go.Proofs.Sess
/- The reference's decimal numbers. -/
namespace Go.Proofs.Sess
open Go Go.RowKit

/-- What decimal has written, where m is left of n. -/
def DecSt (n m : Nat) (l : List Nat) : Prop := (l = [] ∧ m = n) ∨ (l ≠ [] ∧ (if m = 0 then l else (Lib.decDigits m).map (·.toNat) ++ l) = (Lib.decDigits n).map (·.toNat))
theorem decDigits_small {u : Nat} (h : u < 10) : (Lib.decDigits u).map (·.toNat) = [48 + u] := by
  rw [Lib.decDigits, dif_pos h]
  simp; omega
theorem decDigits_big {u : Nat} (h : ¬ u < 10) : (Lib.decDigits u).map (·.toNat) = (Lib.decDigits (u / 10)).map (·.toNat) ++ [48 + u % 10] := by
  rw [Lib.decDigits, dif_neg h]
  simp; omega
theorem DecSt.next {n m : Nat} {l : List Nat} (h : DecSt n m l) (hm : l = [] ∨ 0 < m) : DecSt n (m / 10) ((48 + m % 10) :: l) := by
  right
  refine ⟨by simp, ?_⟩
  have key : (if m / 10 = 0 then (48 + m % 10) :: l else (Lib.decDigits (m / 10)).map (·.toNat) ++ (48 + m % 10) :: l) = (Lib.decDigits m).map (·.toNat) ++ l := by
    by_cases h10 : m < 10
    · rw [if_pos (by omega), decDigits_small h10, show m % 10 = m by omega]; rfl
    · rw [if_neg (by omega), decDigits_big h10]; simp
  rw [key]
  rcases h with ⟨h1, h2⟩ | ⟨h1, h2⟩
  · subst h1; subst h2; simp
  · rw [if_neg (by have := hm.resolve_left h1; omega)] at h2
    exact h2
theorem DecSt.last {n : Nat} {l : List Nat} (h : DecSt n 0 l) (hl : l ≠ []) : strN l = itoaS n := by
  rcases h with ⟨h1, _⟩ | ⟨_, h2⟩
  · exact absurd h1 hl
  · rw [if_pos rfl] at h2
    subst h2
    unfold strN itoaS
    rw [Lib.itoa_nonneg]
    congr 2
    rw [List.map_map]
    conv => rhs; rw [← List.map_id (Lib.decDigits n)]
    exact List.map_congr_left fun x _ => by simp
theorem DecSt.len {n m : Nat} {l : List Nat} (h : DecSt n m l) (hn : n < 65536) : l.length ≤ 21 := by
  rcases h with ⟨h1, _⟩ | ⟨_, h2⟩
  · subst h1; simp
  · have h3 := Lib.itoa_length_le (n : Int) (by omega) (by omega)
    rw [Lib.itoa_nonneg] at h3
    have h4 := congrArg List.length h2
    split at h4 <;> simp at h4 <;> omega

def strLeft : Value → Nat
  | .string t => if t.size = 0 then 1 else 0
  | _ => 0
theorem one_convert {w : World} {q a : Nat} (h : w.heap[q]? = some (.cells #[.int .u8 (a : Int)] 5 (0, 0))) (ha : a < 256) : (convert 75 9 (.slice (some ⟨q, 0, none⟩) 1 1)).run Tryz.prog w = .ok (.string (strN [a])) w := by
  refine box_convert (out := [a]) ?_ (by simp; exact ha)
  exact ⟨rfl, .inr ⟨q, 1, _, rfl, Nat.zero_le _, h, by simp, by unfold maxLen; decide, rfl, rfl⟩⟩

set_option maxRecDepth 100000 in
set_option maxHeartbeats 4000000 in
theorem refdecimal (n : Nat) (w : World) (hn : n < 65536) : Calls Tryz.prog 93 #[.int .i64 (n : Int)] w fun e w' => e = .returned (.string (itoaS n)) ∧ Keeps [] w w' := by
  go_enter Tryz.func93, Tryz.ntmps93
  go_wp2_with fail
  go_loopw [0, 3] (fun nv sv wr => ∃ (m : Nat) (l : List Nat), nv = .int .i64 (m : Int) ∧ sv = .string (strN l) ∧ m < 65536 ∧ DecSt n m l ∧ Keeps [] w wr) (fun nv sv _ => strLeft sv + (intOf nv).toNat)
  case atStart => exact ⟨n, [], rfl, rfl, hn, .inl ⟨rfl, rfl⟩, Keeps.refl _ _⟩
  case round =>
    obtain ⟨m, l, rfl, rfl, hm, hst, hk⟩ := hrel
    have hlen := hst.len hn
    have H := Lib.hid (And.intro hst hk)
    clear hst hk
    have hsz : (strN l).size = l.length := strN_size l
    have ha1 : ¬ 9223372036854775807 < 1 + l.length := by omega
    have ha2 : ¬ 9223372036854775807 < (strN [48 + m % 10]).size + (strN l).size := by rw [strN_size, strN_size]; simp; omega
    have hone : (strN [48 + m % 10]).size = 1 := strN_size _
    have hq : (wr.alloc (.cells #[.int .u8 ((48 + m % 10 : Nat) : Int)] 5)).heap[wr.heap.size]? = some (.cells #[.int .u8 ((48 + m % 10 : Nat) : Int)] 5 (0, 0)) := heap_alloc_self
    have hcv := one_convert hq (by omega)
    rw [show ((48 + m % 10 : Nat) : Int) = 48 + (m : Int) % 10 by omega] at hcv
    have hapd : strN [48 + m % 10] ++ strN l = strN ((48 + m % 10) :: l) := by rw [strN_append]; rfl
    have HA := Lib.hid hapd
    clear hq hapd
    have HM0 := Lib.hid (show ∀ t : ByteArray, strLeft (.string (strN [48 + m % 10] ++ t)) = 0 from fun t => by
      unfold strLeft
      dsimp only
      rw [if_neg]
      have : (strN [48 + m % 10] ++ t).size = 1 + t.size := by rw [ByteArray.size_append, strN_size]; rfl
      omega)
    have HM1 := Lib.hid (show strLeft (.string ⟨#[]⟩) = 1 from rfl)
    have HM2 := Lib.hid (show l ≠ [] → strLeft (.string (strN l)) = 0 from fun h => by
      unfold strLeft
      dsimp only
      rw [if_neg]
      have := List.length_pos_iff.2 h
      omega)
    by_cases hl : l = []
    · have hso : strN l = ⟨#[]⟩ := by rw [hl]; rfl
      have HNX := Lib.hid (H.out.1.next (.inl hl))
      rw [hso]
      have hse : (⟨#[]⟩ : ByteArray).toList = [] := toList_nil rfl
      have he1 : strN [48 + m % 10] ++ (⟨#[]⟩ : ByteArray) = strN [48 + m % 10] := by apply ByteArray.ext; simp
      have HE := Lib.hid he1
      clear hso he1 hsz ha1 ha2
      have ha3 : ¬ 9223372036854775807 < (strN [48 + m % 10]).size + (⟨#[]⟩ : ByteArray).size := by rw [hone]; decide
      go_wp2_with fail
      go_roundw
      case rel => exact ⟨m / 10, (48 + m % 10) :: l, by go_num, by rw [← HA.out, hl]; rfl, by omega, HNX.out, H.out.2.alloc _⟩
      case measure =>
        rw [HM0.out, HM1.out]
        simp [intOf]; omega
    · have hse : (strN l).toList.isEmpty = false := toList_some (by rw [hsz]; have := List.length_pos_iff.2 hl; omega)
      by_cases hm0 : m = 0
      · have HL := Lib.hid (show strN l = itoaS n from DecSt.last (by have := H.out.1; rw [hm0] at this; exact this) hl)
        have hm0' : ¬ (0 : Int) < (m : Int) := by omega
        clear hm0
        go_wp2_with fail
        go_ret
        exact ⟨by rw [← HL.out]; rfl, H.out.2⟩
      · have HNX := Lib.hid (H.out.1.next (.inr (by omega)))
        have hm0' : (0 : Int) < (m : Int) := by omega
        clear hm0
        go_wp2_with fail
        go_roundw
        case rel => exact ⟨m / 10, (48 + m % 10) :: l, by go_num, by rw [← HA.out], by omega, HNX.out, H.out.2.alloc _⟩
        case measure =>
          rw [HM0.out, HM2.out hl]
          simp [intOf]; omega
end Go.Proofs.Sess
/- The reference's message. -/
namespace Go.Proofs.Sess
open Go Go.RowKit

theorem info39v : (Tryz.prog.info? 39).map (fun i => (i.zero, i.size, i.bytes)) = some (some (.agg #[.int .i64 0, .int .i64 0, .int .i64 0, .string ByteArray.empty]), 4, 40) := by kernel_rfl

theorem refbufI (w : World) (b : Nat) (cs : Array Value) (f : Int → Int → Int) (app : Int) (e1 e2 : Bool) (kind dir : Int) (s : ByteArray) (N : Int)
    (h : RefAt w b cs f app e1 e2) (hk0 : 0 ≤ kind) (hk : kind ≤ 18) (hd : dir = 1 ∨ dir = 2) (hf : CntLe f N) (hN : N < 1000000) :
    Calls Tryz.prog 77 #[.pointer (some ⟨b, 0, none⟩), .int .i64 kind, .int .i64 dir, .string s] w (RBuf w b f app e1 e2 kind dir s) := by
  obtain ⟨k, rfl⟩ := Int.eq_ofNat_of_zero_le hk0
  exact refbuf w b cs f app e1 e2 k dir s N h (by omega) hd hf hN
theorem refoneI (w : World) (b : Nat) (cs : Array Value) (f : Int → Int → Int) (app : Int) (e1 e2 : Bool) (kind dir : Int) (s : ByteArray) (N : Int)
    (h : RefAt w b cs f app e1 e2) (hk0 : 0 ≤ kind) (hk : kind ≤ 18) (hd : dir = 1 ∨ dir = 2) (hf : CntLe f N) (hN : N < 1000000) :
    Calls Tryz.prog 70 #[.pointer (some ⟨b, 0, none⟩), .int .i64 kind, .int .i64 dir, .string s] w (ROne w b f app e1 e2 [⟨kind, dir, s⟩]) := by
  obtain ⟨k, rfl⟩ := Int.eq_ofNat_of_zero_le hk0
  exact refone w b cs f app e1 e2 k dir s N h (by omega) hd hf hN

/-- Counts along the events of a message. -/
theorem evq_cnt {f : Int → Int → Int} {N : Int} {dir : Int} {qs : List (ByteArray × Nat)} {rs : List RecW} (hf : CntLe f N) (hl : qs.length ≤ 8 ∧ rs.length ≤ 32) (k : Nat) (hk : k ≤ rs.length) : CntLe (evF f (evQ dir qs ++ evR dir (rs.take k))) (N + 40) := fun a b => by
  have h1 := CntLe.ev (evQ dir qs ++ evR dir (rs.take k)) hf a b
  have h2 : (evQ dir qs ++ evR dir (rs.take k)).length = qs.length + k := by simp [evQ, evR]; omega
  rw [h2] at h1
  omega
theorem evq_cntQ {f : Int → Int → Int} {N : Int} {dir : Int} {qs : List (ByteArray × Nat)} (hf : CntLe f N) (hl : qs.length ≤ 8) (k : Nat) (hk : k ≤ qs.length) : CntLe (evF f (evQ dir (qs.take k))) (N + 40) := fun a b => by
  have h1 := CntLe.ev (evQ dir (qs.take k)) hf a b
  have h2 : (evQ dir (qs.take k)).length = k := by simp [evQ]; omega
  rw [h2] at h1
  omega

/-- The list that is collected, over a step of the reader of the session, and a block that is made. -/
theorem ref_grow {w wr w3 w4 : World} {b : Nat} {v : Value} {n : Nat} {xs : List Value} (ho : wr.ownsRow w.heap.size 39 4 v n xs) (hk : Keeps [b] w wr) (h3 : Keeps [b] wr w3) (h4 : Keeps [b] w3 w4) (hb : b < w.heap.size) {o : Obj} :
    (w4.alloc o).ownsRow w.heap.size 39 4 v n xs ∧ w.heap.size ≤ w4.heap.size ∧ Keeps [b] w w4 := by
  have h34 := h3.trans h4 (fun _ h _ => h)
  have ho4 := h34.own ho (fun g hg => by have := (ho.lt g hg).1; simp; omega)
  exact ⟨ho4.alloc _, Nat.le_trans hk.size h34.size, hk.trans h34 (fun _ h _ => h)⟩
/-- Behind the append. -/
theorem ref_after {w w4 w5 : World} {b : Nat} {v : Value} {n : Nat} {xs : List Value} {o : Obj} (ho : (w4.alloc o).ownsRow w.heap.size 39 4 v n xs) (hk : Keeps [b] w w4) (hg : (w4.alloc o).grownBy w5 v.ownBlock) (hb : b < w.heap.size) :
    Keeps [b] w w5 ∧ ∀ {cs : Array Value} {f : Int → Int → Int} {app : Int} {e1 e2 : Bool}, RefAt w4 b cs f app e1 e2 → RefAt w5 b cs f app e1 e2 := by
  have hg' : ∀ g, v.ownBlock = some g → w.heap.size ≤ g := fun g hg => (ho.lt g hg).1
  refine ⟨(((hk.alloc o).mono (T := [b] ++ v.ownBlock.toList) (by intro x hx _; simp at hx; simp [hx])).grown hg (fun k hk' _ => by simp [hk'])).mono (fun x hx hl => ?_), fun h => ?_⟩
  · simp at hx
    rcases hx with hx | hx
    · simp [hx]
    · have := hg' x hx; omega
  · refine ((h.keep (S := []) ((Keeps.refl _ _).alloc o) (by simp)).keep (S := v.ownBlock.toList) ((Keeps.refl _ _).grown hg (fun k hk' _ => by simp [hk'])) (fun hm => ?_))
    have := hg' b (by simpa using hm)
    omega

/-- What the reference's calls give. -/
def RGave (w : World) (b : Nat) (f : Int → Int → Int) (app : Int) (e1 e2 : Bool) (es : List Ev) (e : Ending) (w' : World) : Prop := ROne w b f app e1 e2 es e w'

set_option maxRecDepth 100000 in
set_option maxHeartbeats 8000000 in
theorem refmessage (w : World) (b : Nat) (cs : Array Value) (f : Int → Int → Int) (app dir : Int) (e1 e2 : Bool) (s : ByteArray) (N : Int)
    (h : RefAt w b cs f app e1 e2) (hdir : dir = 1 ∨ dir = 2) (hf : CntLe f N) (hN : N < 90000) (hs : s.size < 1000000) :
    Calls Tryz.prog 71 #[.pointer (some ⟨b, 0, none⟩), .int .i64 dir, .string s] w (ROne w b f app e1 e2 (msgEv dir s)) := by
  obtain ⟨i0, hi0, hz0, hz1, hz2⟩ := info_parts info39v
  have hbl := lt_of_heap h.heap
  have H := Lib.hid h
  have HF := Lib.hid hf
  clear h hf
  go_enter Tryz.func71, Tryz.ntmps71
  go_wp2_with fail
  refine (refdec w s hs).mono ?_
  rintro e w1 ⟨hk1, hd⟩
  rcases hd with ⟨hno, en, hen, rfl⟩ | ⟨qs, rs, x, y, qv, rv, ho, rfl, howq, howr⟩
  · have HK1 := Lib.hid (And.intro hk1 hno)
    clear hk1 hno
    have hen' : ((en : Int) != 0) = true := by simpa using hen
    clear hen
    go_wp2_with (go_at_call 70; refine (refoneI _ b cs f app e1 e2 18 dir _ N (H.out.keep (S := []) (HK1.out.1.alloc _) (by simp)) (by omega) (by omega) hdir HF.out (by omega)).mono ?_; rintro e2' w2 hp; have HP := Lib.hid hp; obtain ⟨v, cs', rfl, -⟩ := hp)
    go_ret
    rw [msgEv_none dir HK1.out.2]
    obtain ⟨v2, cs2, h1, h2, h3, h4⟩ := HP.out
    refine ⟨v2, cs2, h1, h2, ?_, ((HK1.out.1.alloc _).mono (by simp)).trans h4 (fun _ h _ => h)⟩
    obtain ⟨g1, g2⟩ := h3
    refine ⟨g1, ?_⟩
    rcases g2 with g2 | ⟨g, cap, cur, hv, hb, rest⟩
    · exact .inl g2
    · exact .inr ⟨g, cap, cur, hv, by have := (HK1.out.1.alloc (.cells #[.int .i64 0, .int .i64 0, .slice none 0 0, .slice none 0 0] 115)).size; omega, rest⟩
  · obtain ⟨qa, qc, rfl⟩ := own_slice howq
    obtain ⟨ra, rc, rfl⟩ := own_slice howr
    have hlen := decOut_len ho
    have HO := Lib.hid (And.intro hk1 (And.intro ho (And.intro howq howr)))
    clear hk1 ho howq howr
    go_upto_region 4 with fail
    have hk2 : Keeps [] w (w1.alloc (.cells #[.int .i64 x, .int .i64 y, .slice qa qs.length qc, .slice ra rs.length rc] 115)) := HO.out.1.alloc _
    have hd2 : (w1.alloc (.cells #[.int .i64 x, .int .i64 y, .slice qa qs.length qc, .slice ra rs.length rc] 115)).heap[w1.heap.size]? = some (.cells #[.int .i64 x, .int .i64 y, .slice qa qs.length qc, .slice ra rs.length rc] 115 (0, 0)) := heap_alloc_self
    have hq2 := HO.out.2.2.1.alloc (.cells #[.int .i64 x, .int .i64 y, .slice qa qs.length qc, .slice ra rs.length rc] 115)
    have hr2 := HO.out.2.2.2.alloc (.cells #[.int .i64 x, .int .i64 y, .slice qa qs.length qc, .slice ra rs.length rc] 115)
    have hz := HO.out.1.size
    have H2 := Lib.hid (And.intro hk2 (And.intro hd2 (And.intro hq2 hr2)))
    clear hk2 hd2 hq2 hr2
    revert H2
    generalize w1.alloc (.cells #[.int .i64 x, .int .i64 y, .slice qa qs.length qc, .slice ra rs.length rc] 115) = W
    intro H2
    generalize hdb : w1.heap.size = db at *
    have hndb : db ∉ [b] := by simp; omega
    have HND := Lib.hid hndb
    have hq8 : qs.length ≤ 8 := hlen.1
    have hr32 : rs.length ≤ 32 := hlen.2
    have HL := Lib.hid hlen
    clear hlen hndb
    have hbW : b < W.heap.size := by have := H2.out.1.size; omega
    go_upto_block 0 with fail
    go_cut [9] (fun ov wx => ∃ oa oc cs1, ov = .slice oa qs.length oc ∧ RefAt wx b cs1 (evF f (evQ dir qs)) app e1 e2 ∧ wx.ownsRow W.heap.size 39 4 (.slice oa qs.length oc) qs.length (bufsV (evB f (evQ dir qs))) ∧ Keeps [b] W wx)
    case first =>
      go_wp2_with fail
      go_loopw [9, 10] (fun ov iv wr => ∃ (k : Nat) (oa : Option Addr) (oc : Nat) (cs1 : Array Value), k ≤ qs.length ∧ iv = .int .i64 (k : Int) ∧ ov = .slice oa k oc ∧ RefAt wr b cs1 (evF f (evQ dir (qs.take k))) app e1 e2 ∧ wr.ownsRow W.heap.size 39 4 (.slice oa k oc) k (bufsV (evB f (evQ dir (qs.take k)))) ∧ Keeps [b] W wr) (fun _ iv _ => qs.length - (intOf iv).toNat)
      case atStart => exact ⟨0, none, 0, cs, Nat.zero_le _, rfl, rfl, H.out.keep (S := []) H2.out.1 (by simp), World.ownsRow_nil _ _ _ _, Keeps.refl _ _⟩
      case round =>
        obtain ⟨k, oa, oc, cs1, hk, rfl, rfl, hra, hrow, hkp⟩ := hrel
        have d2 : wr.cell? ⟨db, 2, none⟩ = some (.slice qa qs.length qc) := hkp.cell (cell_of_heap H2.out.2.1 rfl) HND.out
        by_cases hlt : k < qs.length
        · obtain ⟨g, rfl, hg1, hg2⟩ := own_addr H2.out.2.2.1 (by omega)
          obtain ⟨q, hq⟩ : ∃ q, qs[k]? = some q := ⟨_, List.getElem?_eq_getElem hlt⟩
          obtain ⟨c0, c1⟩ := q_cells H2.out.2.2.1 rfl hq
          have hgF : g ∉ [b] := by simp; omega
          have q0 := hkp.cell c0 hgF
          have HS1 := Lib.hid (And.intro hra (And.intro hrow (And.intro hkp (And.intro hq hbl))))
          clear c0 c1 hra hrow hkp hq hgF hg1 hg2
          go_wp2_with fail
          refine (refbufI wr b cs1 _ app e1 e2 8 dir _ (N + 40) HS1.out.1 (by omega) (by omega) hdir (evq_cntQ HF.out HL.out.1 k (by omega)) (by omega)).mono ?_
          rintro e w4 ⟨rfl, cs2, h4, k4⟩
          have hap := ref_grow HS1.out.2.1 HS1.out.2.2.1 (Keeps.refl _ _) k4 hbW (o := .cells #[.int .i64 8, .int .i64 dir, .int .i64 (evF f (evQ dir (qs.take k)) 8 dir), .string (cutS q.1)] 39)
          have H4 := Lib.hid (And.intro h4 (And.intro k4 hap))
          have hz4 := hap.2.1
          clear h4 k4 hap
          go_wp2_with (refine wpList_append_lies _ (by rfl) _ _ _ (by rfl) W.heap.size 39 i0 _ 4 40 Tryz.underlying34 hi0 hz0 hz1 hz2 rfl (by omega) (.slice oa k oc) k (bufsV (evB f (evQ dir (qs.take k)))) (by rfl) H4.out.2.2.1 ⟨w4.heap.size, 0, none⟩ 1 1 (bufV 8 dir (evF f (evQ dir (qs.take k)) 8 dir) (cutS q.1)) (by rfl) (by rfl) (World.news_of_block heap_alloc_self) (by simp [bufV, Value.oneCell']) (by omega) (by unfold maxLen; omega) (by omega) (by simp; omega) (w4.heap.size + 1) (by simp) ?_
                       intro gg cap w5 hown5 hgrow5 hat5 hlt5
                       have haf := ref_after H4.out.2.2.1 H4.out.2.2.2.2 hgrow5 hbW
                       have H5 := Lib.hid (And.intro hown5 (And.intro (haf.2 H4.out.1) haf.1))
                       clear hown5 hgrow5 hat5 hlt5 haf)
          go_roundw
          case rel =>
            have e1 : evQ dir (qs.take (k + 1)) = evQ dir (qs.take k) ++ [⟨8, dir, q.1⟩] := by
              rw [List.take_add_one, HS1.out.2.2.2.1]; simp [evQ]
            refine ⟨k + 1, some ⟨gg, 0, none⟩, cap, cs2, by omega, by go_num, rfl, ?_, ?_, ?_⟩
            · rw [e1, evF_append]; exact H5.out.2.1
            · rw [e1, evB_append, bufsV_append]; exact H5.out.1
            · exact H5.out.2.2
          case measure => simp [intOf]; omega
        · have hkn : k = qs.length := by omega
          subst hkn
          have HTT := Lib.hid (And.intro hra (And.intro hrow hkp))
          clear hra hrow hkp
          go_wp2_with fail
          go_meet
          have h9 := HTT.out
          rw [List.take_length] at h9
          exact ⟨oa, oc, cs1, rfl, h9.1, h9.2.1, h9.2.2⟩
    case rest =>
      obtain ⟨oa0, oc0, cs0, rfl, hra0, hrow0, hkp0⟩ := hcut
      have H0 := Lib.hid (And.intro hra0 (And.intro hrow0 hkp0))
      clear hra0 hrow0 hkp0
      go_upto_block 2 with fail
      go_cut [9] (fun ov wx => ∃ oa oc cs1, ov = .slice oa (qs.length + rs.length) oc ∧ RefAt wx b cs1 (evF f (evQ dir qs ++ evR dir rs)) app e1 e2 ∧ wx.ownsRow W.heap.size 39 4 (.slice oa (qs.length + rs.length) oc) (qs.length + rs.length) (bufsV (evB f (evQ dir qs ++ evR dir rs))) ∧ Keeps [b] W wx)
      case first =>
        go_wp2_with fail
        go_loopw [9, 11] (fun ov iv wr => ∃ (k : Nat) (oa : Option Addr) (oc : Nat) (cs1 : Array Value), k ≤ rs.length ∧ iv = .int .i64 (k : Int) ∧ ov = .slice oa (qs.length + k) oc ∧ RefAt wr b cs1 (evF f (evQ dir qs ++ evR dir (rs.take k))) app e1 e2 ∧ wr.ownsRow W.heap.size 39 4 (.slice oa (qs.length + k) oc) (qs.length + k) (bufsV (evB f (evQ dir qs ++ evR dir (rs.take k)))) ∧ Keeps [b] W wr) (fun _ iv _ => rs.length - (intOf iv).toNat)
        case atStart => exact ⟨0, oa0, oc0, cs0, Nat.zero_le _, rfl, rfl, by simpa [evR] using H0.out.1, by simpa [evR] using H0.out.2.1, H0.out.2.2⟩
        case round =>
          obtain ⟨k, oa, oc, cs1, hk, rfl, rfl, hra, hrow, hkp⟩ := hrel
          have d2 : wr.cell? ⟨db, 3, none⟩ = some (.slice ra rs.length rc) := hkp.cell (cell_of_heap H2.out.2.1 rfl) HND.out
          by_cases hlt : k < rs.length
          · obtain ⟨g, rfl, hg1, hg2⟩ := own_addr H2.out.2.2.2 (by omega)
            obtain ⟨x, hq⟩ : ∃ q, rs[k]? = some q := ⟨_, List.getElem?_eq_getElem hlt⟩
            obtain ⟨c0, c1, c2, c3⟩ := r_cells H2.out.2.2.2 rfl hq
            have hgF : g ∉ [b] := by simp; omega
            have e0 := hkp.cell c0 hgF
            have e1' := hkp.cell c1 hgF
            have e2' := hkp.cell c2 hgF
            have e3 := hkp.cell c3 hgF
            clear c0 c1 c2 c3
            have hsm := decOut_small HO.out.2.1 x (List.mem_of_getElem? hq)
            have HSM := Lib.hid hsm
            have HS1 := Lib.hid (And.intro hra (And.intro hrow (And.intro hkp (And.intro hq hbl))))
            clear hra hrow hkp hq hgF hg1 hg2 hsm
            go_upto_region 13 with fail
            have hx0 : (wr.alloc (.cells #[.string x.name, .int .i64 (x.type : Int), .int .i64 (x.ttl : Int), .string x.data] 122)).heap[wr.heap.size]? = some (.cells #[.string x.name, .int .i64 (x.type : Int), .int .i64 (x.ttl : Int), .string x.data] 122 (0, 0)) := heap_alloc_self
            have hkx : Keeps [] wr (wr.alloc (.cells #[.string x.name, .int .i64 (x.type : Int), .int .i64 (x.ttl : Int), .string x.data] 122)) := (Keeps.refl _ _).alloc _
            have HX := Lib.hid (And.intro hx0 hkx)
            clear hx0 hkx e0 e1' e2' e3 d2
            revert HX
            generalize wr.alloc (.cells #[.string x.name, .int .i64 (x.type : Int), .int .i64 (x.ttl : Int), .string x.data] 122) = WB
            intro HX
            generalize htb : wr.heap.size = tb at *
            have hS : (fun wx : World => wx.cell? ⟨tb, 0, none⟩ = some (.string x.name) ∧ wx.cell? ⟨tb, 1, none⟩ = some (.int .i64 (x.type : Int)) ∧ wx.cell? ⟨tb, 3, none⟩ = some (.string x.data)) WB.drew := ⟨cell_of_heap (w := WB.drew) HX.out.1 rfl, cell_of_heap (w := WB.drew) HX.out.1 rfl, cell_of_heap (w := WB.drew) HX.out.1 rfl⟩
            have hn1 : x.name.size ≤ 253 := HSM.out.1
            have hn2 : x.data.size ≤ 100000 := HSM.out.2.2
            have hn3 := itoaS_size x.type HSM.out.2.1
            have ha1 : ¬ 9223372036854775807 < x.name.size + 1 := by omega
            have ha2 : ¬ 9223372036854775807 < x.name.size + 1 + (itoaS x.type).size := by omega
            have ha3 : ¬ 9223372036854775807 < x.name.size + 1 + (itoaS x.type).size + 1 := by omega
            have ha4 : ¬ 9223372036854775807 < x.name.size + 1 + (itoaS x.type).size + 1 + x.data.size := by omega
            refine wp_region_seq (fun wx : World => wx.cell? ⟨tb, 0, none⟩ = some (.string x.name) ∧ wx.cell? ⟨tb, 1, none⟩ = some (.int .i64 (x.type : Int)) ∧ wx.cell? ⟨tb, 3, none⟩ = some (.string x.data))
              [(0, 0), (1, 0), (2, 0), (3, 0), (4, 1), (5, 0), (6, 0), (7, 1), (11, 0), (12, 1), (8, 2), (9, 0), (10, 0), (13, 0), (14, 3), (15, 3), (16, 3), (17, 0)]
              [[14, 13, 10, 9, 5, 4], [14, 8, 7], [14, 13, 12], [15, 14, 13, 10, 9, 5, 4], [15, 14, 8, 7], [15, 14, 13, 12], [16, 14, 13, 10, 9, 5, 4], [16, 14, 8, 7], [16, 14, 13, 12]] (by kernel_rfl) (by kernel_rfl) (fun d _ _ _ _ h => by cases d <;> exact h) ?_
            simp only [picks, List.getD_cons_succ, List.getD_cons_zero]
            (refine seq_pure (v := ?_) (by rfl) ?_ ?_; rotate_left; focus (intro wq; first | (go_simp; done) | (go_simp; with_reducible rfl))); (try simp only [Act.put, List.setIfInBounds_toArray, List.set_cons_zero, List.set_cons_succ])
            (refine seq_pure (v := ?_) (by rfl) ?_ ?_; rotate_left; focus (intro wq; first | (go_simp; done) | (go_simp; with_reducible rfl))); (try simp only [Act.put, List.setIfInBounds_toArray, List.set_cons_zero, List.set_cons_succ])
            (refine seq_pure (v := ?_) (by rfl) ?_ ?_; rotate_left; focus (intro wq; first | (go_simp; done) | (go_simp; with_reducible rfl))); (try simp only [Act.put, List.setIfInBounds_toArray, List.set_cons_zero, List.set_cons_succ])
            (refine seq_pure (v := ?_) (by rfl) ?_ ?_; rotate_left; focus (intro wq; first | (go_simp; done) | (go_simp; with_reducible rfl))); (try simp only [Act.put, List.setIfInBounds_toArray, List.set_cons_zero, List.set_cons_succ])
            (refine seq_read (v := ?_) hS (by rfl) ?_ ?_; rotate_left; focus (intro wq hSq; obtain ⟨hq1, hq2, hq3⟩ := hSq; first | (go_simp; done) | (go_simp; with_reducible rfl))); (try simp only [Act.put, List.setIfInBounds_toArray, List.set_cons_zero, List.set_cons_succ])
            (refine seq_pure (v := ?_) (by rfl) ?_ ?_; rotate_left; focus (intro wq; first | (go_simp; done) | (go_simp; with_reducible rfl))); (try simp only [Act.put, List.setIfInBounds_toArray, List.set_cons_zero, List.set_cons_succ])
            (refine seq_pure (v := ?_) (by rfl) ?_ ?_; rotate_left; focus (intro wq; first | (go_simp; done) | (go_simp; with_reducible rfl))); (try simp only [Act.put, List.setIfInBounds_toArray, List.set_cons_zero, List.set_cons_succ])
            (refine seq_read (v := ?_) hS (by rfl) ?_ ?_; rotate_left; focus (intro wq hSq; obtain ⟨hq1, hq2, hq3⟩ := hSq; first | (go_simp; done) | (go_simp; with_reducible rfl))); (try simp only [Act.put, List.setIfInBounds_toArray, List.set_cons_zero, List.set_cons_succ])
            (refine seq_pure (v := ?_) (by rfl) ?_ ?_; rotate_left; focus (intro wq; first | (go_simp; done) | (go_simp; with_reducible rfl))); (try simp only [Act.put, List.setIfInBounds_toArray, List.set_cons_zero, List.set_cons_succ])
            (refine seq_read (v := ?_) hS (by rfl) ?_ ?_; rotate_left; focus (intro wq hSq; obtain ⟨hq1, hq2, hq3⟩ := hSq; first | (go_simp; done) | (go_simp; with_reducible rfl))); (try simp only [Act.put, List.setIfInBounds_toArray, List.set_cons_zero, List.set_cons_succ])
            refine seq_act (fun K hK => ?_)
            go_simp
            refine (refdecimal x.type WB.drew HSM.out.2.1).mono ?_
            rintro e w3 ⟨rfl, k3⟩
            have c30 : w3.cell? ⟨tb, 0, none⟩ = some (.string x.name) := k3.cell hS.1 (by simp)
            have c31 : w3.cell? ⟨tb, 1, none⟩ = some (.int .i64 (x.type : Int)) := k3.cell hS.2.1 (by simp)
            have c33 : w3.cell? ⟨tb, 3, none⟩ = some (.string x.data) := k3.cell hS.2.2 (by simp)
            have H3 := Lib.hid (show Keeps [] WB w3 from (Keeps.refl _ _).drew.trans k3 (by simp))
            clear k3
            refine hK.out _ _ (by exact ⟨c30, c31, c33⟩) ?_; clear hK; clear K
            (try simp only [Act.put, List.setIfInBounds_toArray, List.set_cons_zero, List.set_cons_succ])
            (refine seq_pure (v := ?_) (by rfl) ?_ ?_; rotate_left; focus (intro wq; first | (go_simp; done) | (go_simp; with_reducible rfl))); (try simp only [Act.put, List.setIfInBounds_toArray, List.set_cons_zero, List.set_cons_succ])
            (refine seq_pure (v := ?_) (by rfl) ?_ ?_; rotate_left; focus (intro wq; first | (go_simp; done) | (go_simp; with_reducible rfl))); (try simp only [Act.put, List.setIfInBounds_toArray, List.set_cons_zero, List.set_cons_succ])
            (refine seq_pure (v := ?_) (by rfl) ?_ ?_; rotate_left; focus (intro wq; first | (go_simp; done) | (go_simp; with_reducible rfl))); (try simp only [Act.put, List.setIfInBounds_toArray, List.set_cons_zero, List.set_cons_succ])
            refine seq_do (fun K hK => ?_)
            go_simp
            refine (refbufI w3 b cs1 _ app e1 e2 9 dir _ (N + 40) (HS1.out.1.keep (S := []) (HX.out.2.trans H3.out (by simp)) (by simp)) (by omega) (by omega) hdir (evq_cnt HF.out HL.out k (by omega)) (by omega)).mono ?_
            rintro e w4 ⟨rfl, cs2, h4, k4⟩
            have H4 := Lib.hid (And.intro h4 k4)
            have hap := ref_grow HS1.out.2.1 HS1.out.2.2.1 ((HX.out.2.trans H3.out (by simp)).mono (T := [b]) (by simp)) k4 hbW (o := .cells #[.int .i64 9, .int .i64 dir, .int .i64 (evF f (evQ dir qs ++ evR dir (rs.take k)) 9 dir), .string (cutS (ansB x.name x.type x.data))] 39)
            have HAP := Lib.hid hap
            clear h4 k4 hap
            refine hK.out _ _ ?_; clear hK; clear K
            (try simp only [Act.put, List.setIfInBounds_toArray, List.set_cons_zero, List.set_cons_succ])
            refine seq_do (fun K hK => ?_)
            go_simp
            refine hK.out _ _ ?_; clear hK; clear K
            (try simp only [Act.put, List.setIfInBounds_toArray, List.set_cons_zero, List.set_cons_succ])
            refine seq_do (fun K hK => ?_)
            refine step_append_lies _ (by rfl) _ _ _ (by rfl) W.heap.size 39 i0 _ 4 40 Tryz.underlying34 hi0 hz0 hz1 hz2 rfl (by omega) (.slice oa (qs.length + k) oc) (qs.length + k) (bufsV (evB f (evQ dir qs ++ evR dir (rs.take k)))) (by rfl) HAP.out.1 ⟨w4.heap.size, 0, none⟩ 1 1 (bufV 9 dir (evF f (evQ dir qs ++ evR dir (rs.take k)) 9 dir) (cutS (ansB x.name x.type x.data))) (by rfl) (by rfl) (World.news_of_block heap_alloc_self) (by simp [bufV, Value.oneCell']) (by omega) (by unfold maxLen; omega) (by omega) (by have := HAP.out.2.1; simp; omega) (w4.heap.size + 1) (by simp) ?_
            intro gg cap w5 hown5 hgrow5 hat5 hlt5
            have HQ5 := Lib.hid (And.intro hown5 (And.intro hgrow5 hat5))
            clear hown5 hgrow5 hat5
            refine hK.out _ _ ?_; clear hK; clear K
            (try simp only [Act.put, List.setIfInBounds_toArray, List.set_cons_zero, List.set_cons_succ])
            (refine seq_pure (v := ?_) (by rfl) ?_ ?_; rotate_left; focus (intro wq; first | (go_simp; done) | (go_simp; with_reducible rfl))); (try simp only [Act.put, List.setIfInBounds_toArray, List.set_cons_zero, List.set_cons_succ])
            refine seq_nil ?_
            clear hS c30 c31 c33
            have haf := ref_after HAP.out.1 HAP.out.2.2 HQ5.out.2.1 hbW
            have H5 := Lib.hid (And.intro HQ5.out.1 (And.intro (haf.2 H4.out.1) haf.1))
            clear haf
            go_wp2_with fail
            go_roundw
            case rel =>
              have e1 : evQ dir qs ++ evR dir (rs.take (k + 1)) = (evQ dir qs ++ evR dir (rs.take k)) ++ [⟨9, dir, ansB x.name x.type x.data⟩] := by
                rw [List.take_add_one, HS1.out.2.2.2.1]; simp [evR]
              refine ⟨k + 1, some ⟨gg, 0, none⟩, cap, cs2, by omega, by go_num, rfl, ?_, ?_, ?_⟩
              · rw [e1, evF_append]; exact H5.out.2.1
              · rw [e1, evB_append, bufsV_append]; exact H5.out.1
              · exact H5.out.2.2
            case measure => simp [intOf]; omega
          · have hkn : k = rs.length := by omega
            subst hkn
            have HTT := Lib.hid (And.intro hra (And.intro hrow hkp))
            clear hra hrow hkp
            go_wp2_with fail
            go_meet
            have h9 := HTT.out
            rw [List.take_length] at h9
            exact ⟨oa, oc, cs1, rfl, h9.1, h9.2.1, h9.2.2⟩
      case rest =>
        obtain ⟨oa, oc, cs1, rfl, hra, hrow, hkp⟩ := hcut
        have H9 := Lib.hid (And.intro hra (And.intro hrow hkp))
        clear hra hrow hkp
        go_wp2_with fail
        go_ret
        rw [msgEv_out dir HO.out.2.1]
        refine ⟨_, cs1, rfl, H9.out.1, ?_, (H2.out.1.mono (by simp)).trans H9.out.2.2 (fun _ h _ => h)⟩
        have hl9 : (evQ dir qs ++ evR dir rs).length = qs.length + rs.length := by simp [evQ, evR]
        rw [hl9]
        obtain ⟨g1, g2⟩ := H9.out.2.1
        refine ⟨g1, ?_⟩
        rcases g2 with g2 | ⟨g, cap, cur, hv, hb, rest⟩
        · exact .inl g2
        · exact .inr ⟨g, cap, cur, hv, by have := H2.out.1.size; omega, rest⟩
end Go.Proofs.Sess
