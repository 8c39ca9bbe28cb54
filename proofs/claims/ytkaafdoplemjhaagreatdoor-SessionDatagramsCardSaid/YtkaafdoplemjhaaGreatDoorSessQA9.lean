/- A part of the proof that a session of datagrams answers as the reference (SessionDatagrams). Its contents: contracts of functions of the program, each stated with its premises. -/
import Derived.Test.YtkaafdoplemjhaaGreatDoorSessQA8
import Derived.Deep.DeepCutAuto
import Derived.Deep.CutBlock
import Derived.Test.YtkaafdoplemjhaaGreatDoorSessQA6
import Derived.Deep.RegionHeld3
namespace Go.Proofs.Sess
open Go Go.RowKit

theorem info120 : (Tryz.prog.info? 120).map (fun i => (i.zero, i.size, i.bytes)) = some (some (.agg #[.string ByteArray.empty, .int .i64 0]), 2, 24) := by kernel_rfl
theorem info122 : (Tryz.prog.info? 122).map (fun i => (i.zero, i.size, i.bytes)) = some (some (.agg #[.string ByteArray.empty, .int .i64 0, .int .i64 0, .string ByteArray.empty]), 4, 48) := by kernel_rfl
/-- What Decode gives. -/
def DecOut (s : ByteArray) (qs : List (ByteArray × Nat)) (rs : List RecW) : Prop :=
  ∃ a b, decodeP s = some (a, b) ∧ qs.map (·.1) = a.map strN ∧ RecsAre rs b ∧ ∀ r ∈ rs, r.small
def Decoded (w : World) (s : ByteArray) (en : Ending) (w' : World) : Prop :=
  Keeps [] w w' ∧ ((decodeP s = none ∧ ∃ e : Nat, e ≠ 0 ∧ en = .returned (.tuple #[.agg #[.int .i64 0, .int .i64 0, .slice none 0 0, .slice none 0 0], .int .i64 (e : Int)])) ∨
    ∃ qs rs, ∃ x y : Int, ∃ qv rv, DecOut s qs rs ∧ en = .returned (.tuple #[.agg #[.int .i64 x, .int .i64 y, qv, rv], .int .i64 0]) ∧ w'.ownsRow w.heap.size 120 2 qv qs.length (qV qs) ∧ w'.ownsRow w.heap.size 122 4 rv rs.length (rV rs))

/-- What name gives after no error. -/
def NameTo (w : World) (rb : Nat) (s : ByteArray) (i : Nat) (en : Ending) (w' : World) : Prop :=
  ∃ v i1 e1, en = .returned (.string v) ∧ w'.heap[rb]? = some (RdObj s i1 e1) ∧ Keeps [rb] w w' ∧ v.size ≤ 253 ∧ ((∃ nm, nameP s i i 0 0 [] none = some (nm, i1) ∧ v = strN nm ∧ e1 = 0) ∨ (nameP s i i 0 0 [] none = none ∧ e1 ≠ 0))
theorem name_go (w : World) (rb : Nat) (s : ByteArray) (i : Nat) (hr : w.heap[rb]? = some (RdObj s i 0)) (hs : s.size < 1000000) (hi : i ≤ s.size) :
    Calls Tryz.prog 83 #[.pointer (some ⟨rb, 0, none⟩)] w (NameTo w rb s i) :=
  (name_any w rb s i hr hs hi).mono fun en w' h => by
    obtain ⟨v, i4, e4, h1, h2, h3, h4⟩ := named_out (e := 0) (at_ := i) (by rw [if_pos rfl]; exact h)
    rw [if_pos rfl] at h4
    refine ⟨v, i4, e4, h1, h2, h.1, h3, ?_⟩
    rcases h4 with ⟨nm, g1, _, g2, g3⟩ | h4
    · exact .inl ⟨nm, g1, g2, g3⟩
    · exact .inr h4

/-- The header is refused. -/
def badB (s : ByteArray) : Bool := decide ((rst s 6).2 = 0 ∧ (8 < rvl s 2 ∨ 32 < rvl s 3 + rvl s 4 + rvl s 5))
def HSt (s : ByteArray) (i e : Nat) : Prop :=
  (e = 0 ∧ 12 ≤ s.size ∧ i = 12 ∧ rvl s 2 = num2 s 4 ∧ rvl s 3 + rvl s 4 + rvl s 5 = num2 s 6 + num2 s 8 + num2 s 10 ∧ num2 s 4 ≤ 8 ∧ num2 s 6 + num2 s 8 + num2 s 10 ≤ 32) ∨ (e ≠ 0 ∧ decodeP s = none)
theorem head_size {s : ByteArray} (h : (rst s 6).2 = 0) : 12 ≤ s.size := by
  by_cases h12 : s.size < 12
  · exact absurd h (rst_short 6 (by omega))
  · omega
theorem head_vals {s : ByteArray} (h : 12 ≤ s.size) : rvl s 2 = num2 s 4 ∧ rvl s 3 = num2 s 6 ∧ rvl s 4 = num2 s 8 ∧ rvl s 5 = num2 s 10 ∧ rst s 6 = (12, 0) :=
  ⟨rvl_ok 2 (by omega), rvl_ok 3 (by omega), rvl_ok 4 (by omega), rvl_ok 5 (by omega), rst_ok 6 (by omega)⟩
theorem head_bad {s : ByteArray} (h : badB s = true) : decodeP s = none := by
  unfold badB at h
  obtain ⟨h1, h2⟩ := of_decide_eq_true h
  have h12 := head_size h1
  obtain ⟨a, b, c, d, _⟩ := head_vals h12
  unfold decodeP
  rw [if_neg (by omega), if_pos (by omega)]
theorem head_st {s : ByteArray} (h : badB s = false) : HSt s (rst s 6).1 (rst s 6).2 := by
  unfold badB at h
  have h := of_decide_eq_false h
  by_cases h1 : (rst s 6).2 = 0
  · have h12 := head_size h1
    obtain ⟨a, b, c, d, e⟩ := head_vals h12
    refine .inl ⟨h1, h12, by rw [e], a, by omega, ?_, ?_⟩ <;> omega
  · exact .inr ⟨h1, decodeP_short h1⟩

/-- The question loop at its round k. -/
def QSt (s : ByteArray) (N k : Nat) (qs : List (ByteArray × Nat)) (i e : Nat) : Prop :=
  (e = 0 ∧ i ≤ s.size ∧ ∃ a, contQ s (N - k) i a = decodeP s ∧ qs.map (·.1) = a.map strN) ∨ (e ≠ 0 ∧ decodeP s = none)
def RSt (s : ByteArray) (M k : Nat) (qs : List (ByteArray × Nat)) (rs : List RecW) (i e : Nat) : Prop :=
  (e = 0 ∧ i ≤ s.size ∧ ∃ a b, contR s (M - k) i b a = decodeP s ∧ qs.map (·.1) = a.map strN ∧ RecsAre rs b ∧ ∀ r ∈ rs, r.small) ∨ (e ≠ 0 ∧ decodeP s = none)
theorem QSt.begin {s : ByteArray} {i e : Nat} (h : HSt s i e) : QSt s (rvl s 2) 0 [] i e := by
  rcases h with ⟨he, h1, h2, h3, h4, h5, h6⟩ | h
  · subst h2
    refine .inl ⟨he, h1, [], ?_, rfl⟩
    rw [decodeP_cont h1 (by omega), h3]; rfl
  · exact .inr h
theorem QSt.next {s : ByteArray} {N k : Nat} {qs : List (ByteArray × Nat)} {i : Nat} {v : ByteArray} {t i3 e3 : Nat} (h : QSt s N k qs i 0) (hk : k < N)
    (hq : (e3 = 0 ∧ i3 ≤ s.size ∧ ∃ nm, questP s i = some (nm, i3) ∧ v = strN nm) ∨ (e3 ≠ 0 ∧ questP s i = none)) : QSt s N (k + 1) (qs ++ [(v, t)]) i3 e3 := by
  rcases h with ⟨_, h1, a, h2, h3⟩ | h
  · rw [show N - k = (N - (k + 1)) + 1 by omega] at h2
    rcases hq with ⟨he, hi, nm, hq, rfl⟩ | ⟨he, hq⟩
    · rw [contQ_some hq] at h2
      exact .inl ⟨he, hi, _, h2, by simp [h3]⟩
    · rw [contQ_none hq] at h2
      exact .inr ⟨he, h2.symm⟩
  · exact absurd rfl h.1
theorem RSt.begin {s : ByteArray} {N k M : Nat} {qs : List (ByteArray × Nat)} {i e : Nat} (h : QSt s N k qs i e) (hk : e = 0 → N ≤ k) (hM : e = 0 → M = num2 s 6 + num2 s 8 + num2 s 10) : RSt s M 0 qs [] i e := by
  rcases h with ⟨he, h1, a, h2, h3⟩ | h
  · have hk := hk he
    have hM := hM he
    rw [show N - k = 0 by omega, contQ_zero, ← hM] at h2
    exact .inl ⟨he, h1, a, [], h2, h3, .nil, by simp⟩
  · exact .inr h
theorem RSt.next {s : ByteArray} {M k : Nat} {qs : List (ByteArray × Nat)} {rs : List RecW} {i : Nat} {r : RecW} {i3 e3 : Nat} (h : RSt s M k qs rs i 0) (hk : k < M)
    (hq : (e3 = 0 ∧ i3 ≤ s.size ∧ ∃ x, recP s i = some (x, i3) ∧ r.isP x ∧ r.small) ∨ (e3 ≠ 0 ∧ recP s i = none)) : RSt s M (k + 1) qs (rs ++ [r]) i3 e3 := by
  rcases h with ⟨_, h1, a, b, h2, h3, h4, h5⟩ | h
  · rw [show M - k = (M - (k + 1)) + 1 by omega] at h2
    rcases hq with ⟨he, hi, x, hq, h6, h7⟩ | ⟨he, hq⟩
    · rw [contR_some hq] at h2
      refine .inl ⟨he, hi, a, _, h2, h3, h4.snoc h6, fun y hy => ?_⟩
      rcases List.mem_append.1 hy with hy | hy
      · exact h5 y hy
      · rw [List.mem_singleton.1 hy]; exact h7
    · rw [contR_none hq] at h2
      exact .inr ⟨he, h2.symm⟩
  · exact absurd rfl h.1

/-- Behind both loops. -/
def FSt (s : ByteArray) (qs : List (ByteArray × Nat)) (rs : List RecW) (i e : Nat) : Prop :=
  (e = 0 ∧ i ≤ s.size ∧ (i = s.size → DecOut s qs rs) ∧ (i ≠ s.size → decodeP s = none)) ∨ (e ≠ 0 ∧ decodeP s = none)
theorem FSt.of {s : ByteArray} {M k : Nat} {qs : List (ByteArray × Nat)} {rs : List RecW} {i e : Nat} (h : RSt s M k qs rs i e) (hk : e = 0 → M ≤ k) : FSt s qs rs i e := by
  rcases h with ⟨he, h1, a, b, h2, h3, h4, h5⟩ | h
  · have hk := hk he
    rw [show M - k = 0 by omega, contR_zero] at h2
    refine .inl ⟨he, h1, fun hi => ?_, fun hi => ?_⟩
    · rw [if_pos hi] at h2
      exact ⟨a, b, h2.symm, h3, h4, h5⟩
    · rw [if_neg hi] at h2
      exact h2.symm
  · exact .inr h
theorem num_le {s : ByteArray} {k i e : Nat} (hi : e = 0 → i ≤ s.size) (h : (num s k 0 i e).2.2 = 0) : (num s k 0 i e).2.1 ≤ s.size := by
  rcases num_ok s k 0 i e h with ⟨_, h2, h3⟩ | h2
  · omega
  · subst h2; exact hi h
theorem num_lt2 (s : ByteArray) (i e : Nat) : (num s 2 0 i e).1 < 65536 := by
  have := num_lt s 2 0 i e; omega
/-- What data gives, its cells by name. -/
theorem data_out {w : World} {rb : Nat} {s : ByteArray} {i n : Nat} {R : Option (List Nat)} {en : Ending} {w' : World} (h : DataTo w rb s i n R en w') :
    Keeps [rb] w w' ∧ ∃ v i6 e6, en = .returned (.string v) ∧ w'.heap[rb]? = some (RdObj s i6 e6) ∧ ((∃ d, R = some d ∧ v = strN d ∧ i6 = i + n ∧ e6 = 0) ∨ (R = none ∧ e6 ≠ 0)) := by
  refine ⟨h.1, ?_⟩
  rcases h.2 with ⟨d, h1, _, h2, h3⟩ | ⟨h1, v, i', e', h2, h3, h4⟩
  · exact ⟨_, _, 0, h2, h3, .inl ⟨d, h1, rfl, rfl, rfl⟩⟩
  · exact ⟨v, i', e', h2, h3, .inr ⟨h1, h4⟩⟩
set_option maxRecDepth 100000 in
set_option maxHeartbeats 8000000 in
theorem decode_any (w : World) (s : ByteArray) (hs : s.size < 1000000) : Calls Tryz.prog 57 #[.string s] w (Decoded w s) := by
  go_enter Tryz.func57, Tryz.ntmps57
  go_upto_region 2 with fail
  have hrd : ((w.alloc (.cells #[.int .i64 0, .int .i64 0, .slice none 0 0, .slice none 0 0] 115)).alloc (.cells #[.string s, .int .i64 0, .int .i64 0] 167)).heap[w.heap.size + 1]? = some (RdObj s (rst s 0).1 (rst s 0).2) := by
    have := heap_alloc_self (w := w.alloc (.cells #[.int .i64 0, .int .i64 0, .slice none 0 0, .slice none 0 0] 115)) (o := .cells #[.string s, .int .i64 0, .int .i64 0] 167)
    rw [show (w.alloc (.cells #[.int .i64 0, .int .i64 0, .slice none 0 0, .slice none 0 0] 115)).heap.size = w.heap.size + 1 by simp] at this
    exact this
  have hres : ((w.alloc (.cells #[.int .i64 0, .int .i64 0, .slice none 0 0, .slice none 0 0] 115)).alloc (.cells #[.string s, .int .i64 0, .int .i64 0] 167)).heap[w.heap.size]? = some (.cells #[.int .i64 0, .int .i64 0, .slice none 0 0, .slice none 0 0] 115 (0, 0)) := (heap_alloc_far (by simp)).trans heap_alloc_self
  have hk : Keeps [] w ((w.alloc (.cells #[.int .i64 0, .int .i64 0, .slice none 0 0, .slice none 0 0] 115)).alloc (.cells #[.string s, .int .i64 0, .int .i64 0] 167)) := ((Keeps.refl _ _).alloc _).alloc _
  have HW := Lib.hid (And.intro hres hk)
  have H0 := Lib.hid hrd
  clear hrd hres hk
  revert H0 HW
  generalize (w.alloc (.cells #[.int .i64 0, .int .i64 0, .slice none 0 0, .slice none 0 0] 115)).alloc (.cells #[.string s, .int .i64 0, .int .i64 0] 167) = W0
  intro HW H0
  generalize hrb : w.heap.size + 1 = rb at *
  generalize hbb : w.heap.size = bb at *
  go_upto_region 3 with (go_at_call 82; first
    | (have hz := number_st w2 rb s 1 H2.out.1 hs
       refine hz.mono ?_; rintro en w3 ⟨rfl, h3, k3⟩; have H3 := Lib.hid (And.intro h3 (H2.out.2.trans k3 (fun _ h _ => h))); clear h3 k3 hz)
    | (have hz := number_st W0 rb s 0 H0.out hs
       refine hz.mono ?_; rintro en w2 ⟨rfl, h2, k2⟩; have H2 := Lib.hid (And.intro h2 k2); clear h2 k2 hz))
  have hr3 := lt_of_heap H3.out.1
  have hd : (w3.alloc (.cells #[.int .i64 (rvl s 0 : Nat), .int .i64 (rvl s 1 : Nat), .slice none 0 0, .slice none 0 0] 115)).heap[w3.heap.size]? = some (.cells #[.int .i64 (rvl s 0 : Nat), .int .i64 (rvl s 1 : Nat), .slice none 0 0, .slice none 0 0] 115 (0, 0)) := heap_alloc_self
  have hrd : (w3.alloc (.cells #[.int .i64 (rvl s 0 : Nat), .int .i64 (rvl s 1 : Nat), .slice none 0 0, .slice none 0 0] 115)).heap[rb]? = some (RdObj s (rst s 2).1 (rst s 2).2) := ((Keeps.refl [] w3).alloc _).heap H3.out.1 (by simp)
  have hk : Keeps [rb] W0 (w3.alloc (.cells #[.int .i64 (rvl s 0 : Nat), .int .i64 (rvl s 1 : Nat), .slice none 0 0, .slice none 0 0] 115)) := H3.out.2.trans ((Keeps.refl _ _).alloc _) (fun _ h _ => h)
  have HD := Lib.hid (And.intro hd hk)
  have H1 := Lib.hid hrd
  clear hd hrd hk H3 H2 H0
  revert HD H1
  generalize w3.alloc (.cells #[.int .i64 (rvl s 0 : Nat), .int .i64 (rvl s 1 : Nat), .slice none 0 0, .slice none 0 0] 115) = W1
  intro HD H1
  generalize hdb : w3.heap.size = db at *
  have l3 := rvl_lt s 3
  have l4 := rvl_lt s 4
  have l5 := rvl_lt s 5
  have hwA : IntKind.i64.wrap ((rvl s 3 : Nat) : Int) = ((rvl s 3 : Nat) : Int) := IntWalk.i64_in _ (by omega)
  have hwB : IntKind.i64.wrap (((rvl s 3 : Nat) : Int) + ((rvl s 4 : Nat) : Int)) = ((rvl s 3 : Nat) : Int) + ((rvl s 4 : Nat) : Int) := IntWalk.i64_in _ (by omega)
  have hwC : IntKind.i64.wrap (((rvl s 3 : Nat) : Int) + ((rvl s 4 : Nat) : Int) + ((rvl s 5 : Nat) : Int)) = ((rvl s 3 : Nat) : Int) + ((rvl s 4 : Nat) : Int) + ((rvl s 5 : Nat) : Int) := IntWalk.i64_in _ (by omega)
  clear l3 l4 l5
  go_wp2_with (go_at_call 82; have hz := number_st W1 rb s 2 H1.out hs
               refine hz.mono ?_; rintro en w4 ⟨rfl, h4, k4⟩; have H4 := Lib.hid (And.intro h4 k4); clear h4 k4 hz)
  refine wp_loop_rounds 4 ?_
  rw [rounds_succ]
  go_wp2_with (go_at_call 82; have hz := number_st w4 rb s 3 H4.out.1 hs
               refine hz.mono ?_; rintro en w5 ⟨rfl, h5, k5⟩; have H5 := Lib.hid (And.intro h5 (H4.out.2.trans k5 (fun _ h _ => h))); clear h5 k5 hz)
  rw [rounds_succ]
  go_wp2_with (go_at_call 82; have hz := number_st w5 rb s 4 H5.out.1 hs
               refine hz.mono ?_; rintro en w6 ⟨rfl, h6, k6⟩; have H6 := Lib.hid (And.intro h6 (H5.out.2.trans k6 (fun _ h _ => h))); clear h6 k6 hz)
  rw [rounds_succ]
  go_wp2_with (go_at_call 82; have hz := number_st w6 rb s 5 H6.out.1 hs
               refine hz.mono ?_; rintro en w7 ⟨rfl, h7, k7⟩; have H7 := Lib.hid (And.intro h7 (H6.out.2.trans k7 (fun _ h _ => h))); clear h7 k7 hz)
  rw [rounds_succ]
  go_upto_region 8 with fail
  have hDec : DecAt w w7 bb rb db s (rst s 6).1 (rst s 6).2 [] [] := by
    have k17 := HD.out.2.trans H7.out.2 (fun _ h _ => h)
    have hz := k17.heap HW.out.1 (by simp; omega)
    have hd := H7.out.2.heap HD.out.1 (by simp; omega)
    exact ⟨HW.out.2.trans k17 (fun x hx hl => by simp at hx; omega), hz, H7.out.1, ⟨_, _, hd, World.ownsRow_nil _ _ _ _, World.ownsRow_nil _ _ _ _⟩, by omega, by omega, by omega, by omega⟩
  have HDec := Lib.hid hDec
  clear hDec
  obtain ⟨m, hm, hm'⟩ : ∃ m : Nat, ((rvl s 3 : Nat) : Int) + (rvl s 4 : Nat) + (rvl s 5 : Nat) = (m : Int) ∧ m = rvl s 3 + rvl s 4 + rvl s 5 := ⟨_, by push_cast; rfl, rfl⟩
  have lN := rvl_lt s 2
  have l3 := rvl_lt s 3
  have l4 := rvl_lt s 4
  have l5 := rvl_lt s 5
  have lm : m < 200000 := by omega
  clear hwA hwB hwC HW HD H7 l3 l4 l5
  rw [hm]
  clear hm
  have HM := Lib.hid hm'
  clear hm'
  obtain ⟨n, hn⟩ : ∃ n : Nat, n = rvl s 2 := ⟨_, rfl⟩
  rw [← hn] at lN ⊢
  have HN := Lib.hid hn
  clear hn
  go_cut [41] (fun b wx => w7 = wx ∧ b = .bool (badB s))
  case first =>
    by_cases he : (rst s 6).2 = 0
    · have c2 : w7.cell? ⟨rb, 2, none⟩ = some (.int .i64 0) := by rw [cell_of_heap HDec.out.r (v := .int .i64 ((rst s 6).2 : Int)) rfl, he]; rfl
      by_cases h8 : 8 < n
      · have HB := Lib.hid (show badB s = true by unfold badB; exact decide_eq_true ⟨he, by rw [← HN.out]; exact .inl h8⟩)
        clear he
        have h8' : (8 : Int) < (n : Int) := by omega
        clear h8
        go_wp2_with fail
        go_meet
        exact ⟨rfl, by rw [HB.out]⟩
      · have h8' : ¬ (8 : Int) < (n : Int) := by omega
        by_cases h3 : 32 < m
        · have HB := Lib.hid (show badB s = true by unfold badB; exact decide_eq_true ⟨he, by rw [← HN.out, ← HM.out]; exact .inr h3⟩)
          clear he
          have h3' : (32 : Int) < (m : Int) := by omega
          clear h3 h8
          go_wp2_with fail
          go_meet
          exact ⟨rfl, by rw [HB.out]⟩
        · have HB := Lib.hid (show badB s = false by unfold badB; exact decide_eq_false (by rw [← HN.out, ← HM.out]; omega))
          clear he
          have h3' : ¬ (32 : Int) < (m : Int) := by omega
          clear h3 h8
          go_wp2_with fail
          go_meet
          exact ⟨rfl, by rw [HB.out]⟩
    · have HB := Lib.hid (show badB s = false by unfold badB; exact decide_eq_false (fun h => he h.1))
      have c2 : w7.cell? ⟨rb, 2, none⟩ = some (.int .i64 ((rst s 6).2 : Int)) := cell_of_heap HDec.out.r rfl
      have hq1 : (((rst s 6).2 : Int) == 0) = false := by simpa using he
      clear he
      go_wp2_with fail
      go_meet
      exact ⟨rfl, by rw [HB.out]⟩
  case rest =>
    obtain ⟨rfl, rfl⟩ := hcut
    go_upto_if 41 with fail
    go_cut [] (fun wx => ∃ i e, DecAt w wx bb rb db s i e [] [] ∧ HSt s i e)
    case first =>
      cases hb : badB s
      · have HB := Lib.hid hb
        go_wp2_with fail
        go_meet
        exact ⟨_, _, HDec.out, head_st HB.out⟩
      · have HB := Lib.hid hb
        have c2 : w7.cell? ⟨rb, 2, none⟩ = some (.int .i64 ((rst s 6).2 : Int)) := cell_of_heap HDec.out.r rfl
        have f2 : w7.frozen? ⟨rb, 2, none⟩ = false := free_of_heap HDec.out.r
        go_wp2_with fail
        go_meet
        exact ⟨_, _, HDec.out.rd ((Keeps.refl _ _).setCell (by simp) _) (rd_err HDec.out.r 3), .inr ⟨by decide, head_bad HB.out⟩⟩
    case rest =>
      obtain ⟨i0, e0, hd0, hh0⟩ := hcut
      have HD0 := Lib.hid hd0
      have HH0 := Lib.hid hh0
      clear hd0 hh0 HDec
      obtain ⟨q0, hq0, hqz0, hqz1, hqz2⟩ := info_parts info120
      obtain ⟨r0, hr0, hrz0, hrz1, hrz2⟩ := info_parts info122
      go_upto_block 2 with fail
      go_cut [] (fun wx => ∃ qs i e, DecAt w wx bb rb db s i e qs [] ∧ RSt s m 0 qs [] i e ∧ m < 200000)
      case first =>
        go_wp2_with fail
        go_loopw [8] (fun t wr => ∃ (k : Nat) (qs : List (ByteArray × Nat)) (i e : Nat), t = .int .i64 (k : Int) ∧ DecAt w wr bb rb db s i e qs [] ∧ QSt s n k qs i e ∧ qs.length = k ∧ k ≤ n ∧ (e = 0 → m = num2 s 6 + num2 s 8 + num2 s 10)) (fun t _ => n - (intOf t).toNat)
        case atStart =>
          refine ⟨0, [], i0, e0, rfl, HD0.out, by rw [HN.out]; exact QSt.begin HH0.out, rfl, Nat.zero_le _, fun he => ?_⟩
          rw [HM.out]
          rcases HH0.out with h | h
          · exact h.2.2.2.2.1
          · exact absurd he h.1
        case round =>
          obtain ⟨k, qs, i, e, rfl, hd, hq, hl, hk, hM⟩ := hrel
          have c2 : wr.cell? ⟨rb, 2, none⟩ = some (.int .i64 (e : Int)) := cell_of_heap hd.r rfl
          have HX := Lib.hid (And.intro hd (And.intro hq (And.intro hl hM)))
          clear hd hq hl hM
          by_cases hlt : k < n
          · have hlt' : (k : Int) < (n : Int) := by omega
            by_cases he : e = 0
            · subst he
              have hile : i ≤ s.size := by
                rcases HX.out.2.1 with h | h
                · exact h.2.1
                · exact absurd rfl h.1
              have HLT := Lib.hid hlt
              clear hlt
              go_upto_region 14 with (go_at_call 83; refine (name_go wr rb s i HX.out.1.r hs hile).mono ?_; rintro en w1 ⟨v, i1, e1, rfl, h1, k1, hv, hst⟩; have HV := Lib.hid (And.intro h1 (And.intro k1 (And.intro hv hst))); clear h1 k1 hv hst)
              clear c2
              have hqb : (w1.alloc (.cells #[.string v, .int .i64 0] 120)).heap[w1.heap.size]? = some (.cells #[.string v, .int .i64 0] 120 (0, 0)) := heap_alloc_self
              have hrb1 := (heap_alloc_far (o := .cells #[.string v, .int .i64 0] 120) (lt_of_heap HV.out.1)).trans HV.out.1
              have hk1 : Keeps [rb] wr (w1.alloc (.cells #[.string v, .int .i64 0] 120)) := HV.out.2.1.alloc _
              have hsz : wr.heap.size ≤ w1.heap.size := HV.out.2.1.size
              have HW := Lib.hid (And.intro hqb (And.intro hrb1 hk1))
              clear hqb hrb1 hk1
              revert HW
              generalize w1.alloc (.cells #[.string v, .int .i64 0] 120) = W1
              intro HW
              generalize hqb : w1.heap.size = qb at *
              go_upto_region 15 with (go_at_call 82; refine (number_any W1 rb s i1 e1 2 HW.out.2.1 hs (by omega)).mono ?_; rintro en w2 ⟨rfl, h2, k2⟩
                                      have hq2 := k2.heap HW.out.1 (by simpa using cells_ne HW.out.1 HW.out.2.1 (by decide))
                                      have cq1 : w2.cell? ⟨qb, 1, none⟩ = some (.int .i64 0) := cell_of_heap hq2 rfl
                                      have fq1 : w2.frozen? ⟨qb, 1, none⟩ = false := free_of_heap hq2
                                      have H2 := Lib.hid (And.intro hq2 (And.intro h2 (HW.out.2.2.trans k2 (fun _ h _ => h))))
                                      clear h2 k2 hq2)
              clear cq1 fq1
              have hq3 : (w2.setCell ⟨qb, 1, none⟩ (.int .i64 ((num s 2 0 i1 e1).1 : Int))).heap[qb]? = some (.cells #[.string v, .int .i64 ((num s 2 0 i1 e1).1 : Int)] 120 (0, 0)) := by rw [heap_setCell_self H2.out.1]; rfl
              have hr3 := (heap_setCell_far (a := ⟨qb, 1, none⟩) (cells_ne H2.out.2.1 H2.out.1 (by decide)) (.int .i64 ((num s 2 0 i1 e1).1 : Int))).trans H2.out.2.1
              have hk3 : Keeps [rb] wr (w2.setCell ⟨qb, 1, none⟩ (.int .i64 ((num s 2 0 i1 e1).1 : Int))) := H2.out.2.2.setCell (fun h => absurd h (by show ¬ qb < wr.heap.size; omega)) _
              have H3 := Lib.hid (And.intro hq3 (And.intro hr3 hk3))
              clear hq3 hr3 hk3 H2
              revert H3
              generalize w2.setCell ⟨qb, 1, none⟩ (.int .i64 ((num s 2 0 i1 e1).1 : Int)) = W2
              intro H3
              go_upto_region 16 with (go_at_call 84; refine (class_any W2 rb s _ _ H3.out.2.1 hs).mono ?_; rintro en w3 ⟨rfl, h3, k3⟩
                                      have hq4 := k3.heap H3.out.1 (by simpa using cells_ne H3.out.1 H3.out.2.1 (by decide))
                                      have H4 := Lib.hid (And.intro hq4 (And.intro h3 (H3.out.2.2.trans k3 (fun _ h _ => h))))
                                      clear h3 k3 hq4)
              have cq0 : w3.cell? ⟨qb, 0, none⟩ = some (.string v) := cell_of_heap H4.out.1 rfl
              have cq1 : w3.cell? ⟨qb, 1, none⟩ = some (.int .i64 ((num s 2 0 i1 e1).1 : Int)) := cell_of_heap H4.out.1 rfl
              have hd4 := HX.out.1.rd H4.out.2.2 H4.out.2.1
              obtain ⟨qv, rv, hdb4, hown4, hownR⟩ := hd4.d
              have cdb : w3.cell? ⟨db, 2, none⟩ = some qv := cell_of_heap hdb4 rfl
              have fdb : w3.frozen? ⟨db, 2, none⟩ = false := free_of_heap hdb4
              have hdbn := lt_of_heap hdb4
              have hrs := quest_res HV.out.2.2.2
              have hql := HX.out.2.2.1
              have HQ := Lib.hid (And.intro hd4 (And.intro hdb4 (And.intro hown4 hrs)))
              clear hd4 hdb4 hown4 hownR hrs
              go_wp2_with (refine wpList_append_lies _ (by rfl) _ _ _ (by rfl) w.heap.size 120 q0 _ 2 24 Tryz.underlying112 hq0 hqz0 hqz1 hqz2 rfl (by omega) qv qs.length (qV qs) (by rfl) (HQ.out.2.2.1.alloc _) ⟨w3.heap.size, 0, none⟩ 1 1 [.string v, .int .i64 ((num s 2 0 i1 e1).1 : Int)] (by rfl) (by rfl) (World.news_of_block heap_alloc_self) (by simp [Value.oneCell']) (by omega) (by unfold maxLen; omega) (by omega) (by have := HQ.out.1.k.size; simp; omega) (w3.heap.size + 1) (by simp) ?_
                           intro gg cap w4 hown5 hgrow5 hat5 hlt5
                           have hpt := HQ.out.1.putQ (q := (v, (num s 2 0 i1 e1).1)) HQ.out.2.1 ((Keeps.refl [] w3).alloc _) hown5 hgrow5
                           have HPT := Lib.hid hpt
                           have hb5 := (hgrow5.block db (by simp; omega) (own_ne HQ.out.2.2.1 HQ.out.2.1 (by decide))).trans ((heap_alloc_far hdbn).trans HQ.out.2.1)
                           have cdb4 : w4.cell? ⟨db, 2, none⟩ = some qv := cell_of_heap hb5 rfl
                           have fdb4 : w4.frozen? ⟨db, 2, none⟩ = false := free_of_heap hb5
                           clear hown5 hgrow5 hat5 hlt5 hpt hb5)
              go_roundw
              case rel =>
                have g1 := HPT.out
                rw [hql] at g1
                refine ⟨k + 1, qs ++ [(v, (num s 2 0 i1 e1).1)], _, _, by go_num, g1, ?_, by simp [hql], HLT.out, fun _ => HX.out.2.2.2 (by simp)⟩
                refine HX.out.2.1.next HLT.out ?_
                rcases HQ.out.2.2.2 with ⟨h1, nm, h2, h3, h4, h5, h6, h7⟩ | h
                · exact .inl ⟨h1, by omega, nm, h2, h3⟩
                · exact .inr h
              case measure => simp [intOf]; omega
            · have hq1 : ((e : Int) == 0) = false := by simpa using he
              go_wp2_with fail
              go_meet
              exact ⟨qs, i, e, HX.out.1, RSt.begin HX.out.2.1 (fun h => absurd h he) HX.out.2.2.2, lm⟩
          · have hlt' : ¬ (k : Int) < (n : Int) := by omega
            go_wp2_with fail
            go_meet
            exact ⟨qs, i, e, HX.out.1, RSt.begin HX.out.2.1 (fun h => by omega) HX.out.2.2.2, lm⟩
      case rest =>
        obtain ⟨qs, i0', e0', hd0, hr0', hm2⟩ := hcut
        have HD1 := Lib.hid hd0
        have HR1 := Lib.hid hr0'
        clear hd0 hr0' HD0 HH0
        go_upto_block 4 with fail
        go_cut [] (fun wx => ∃ rs i e, DecAt w wx bb rb db s i e qs rs ∧ FSt s qs rs i e)
        case first =>
          go_wp2_with fail
          go_loopw [10] (fun t wr => ∃ (k : Nat) (rs : List RecW) (i e : Nat), t = .int .i64 (k : Int) ∧ DecAt w wr bb rb db s i e qs rs ∧ RSt s m k qs rs i e ∧ rs.length = k ∧ k ≤ m) (fun t _ => m - (intOf t).toNat)
          case atStart => exact ⟨0, [], i0', e0', rfl, HD1.out, HR1.out, rfl, Nat.zero_le _⟩
          case round =>
            obtain ⟨k, rs, i, e, rfl, hd, hq, hl, hk⟩ := hrel
            have c2 : wr.cell? ⟨rb, 2, none⟩ = some (.int .i64 (e : Int)) := cell_of_heap hd.r rfl
            have HX := Lib.hid (And.intro hd (And.intro hq hl))
            clear hd hq hl
            by_cases hlt : k < m
            · have hlt' : (k : Int) < (m : Int) := by omega
              by_cases he : e = 0
              · subst he
                have hile : i ≤ s.size := by
                  rcases HX.out.2.1 with h | h
                  · exact h.2.1
                  · exact absurd rfl h.1
                have HLT := Lib.hid hlt
                clear hlt
                go_upto_region 21 with (go_at_call 83; refine (name_go wr rb s i HX.out.1.r hs hile).mono ?_; rintro en w1 ⟨v, i1, e1, rfl, h1, k1, hv, hst⟩; have HV := Lib.hid (And.intro h1 (And.intro k1 (And.intro hv hst))); clear h1 k1 hv hst)
                clear c2
                have hqb : (w1.alloc (.cells #[.string v, .int .i64 0, .int .i64 0, .string ⟨#[]⟩] 122)).heap[w1.heap.size]? = some (.cells #[.string v, .int .i64 0, .int .i64 0, .string ⟨#[]⟩] 122 (0, 0)) := heap_alloc_self
                have hrb1 := (heap_alloc_far (o := .cells #[.string v, .int .i64 0, .int .i64 0, .string ⟨#[]⟩] 122) (lt_of_heap HV.out.1)).trans HV.out.1
                have hk1 : Keeps [rb] wr (w1.alloc (.cells #[.string v, .int .i64 0, .int .i64 0, .string ⟨#[]⟩] 122)) := HV.out.2.1.alloc _
                have hsz : wr.heap.size ≤ w1.heap.size := HV.out.2.1.size
                have HW := Lib.hid (And.intro hqb (And.intro hrb1 hk1))
                clear hqb hrb1 hk1
                revert HW
                generalize w1.alloc (.cells #[.string v, .int .i64 0, .int .i64 0, .string ⟨#[]⟩] 122) = W1
                intro HW
                generalize hqb : w1.heap.size = qb at *
                go_upto_region 22 with (go_at_call 82; refine (number_any W1 rb s i1 e1 2 HW.out.2.1 hs (by omega)).mono ?_; rintro en w2 ⟨rfl, h2, k2⟩
                                        have hqn := k2.heap HW.out.1 (by simpa using cells_ne HW.out.1 HW.out.2.1 (by decide))
                                        have cq1 : w2.cell? ⟨qb, 1, none⟩ = some (.int .i64 0) := cell_of_heap hqn rfl
                                        have fq1 : w2.frozen? ⟨qb, 1, none⟩ = false := free_of_heap hqn
                                        have H2 := Lib.hid (And.intro hqn (And.intro h2 (HW.out.2.2.trans k2 (fun _ h _ => h))))
                                        clear h2 k2 hqn)
                clear cq1 fq1
                have hq3 : (w2.setCell ⟨qb, 1, none⟩ (.int .i64 ((num s 2 0 i1 e1).1 : Int))).heap[qb]? = some (.cells #[.string v, .int .i64 ((num s 2 0 i1 e1).1 : Int), .int .i64 0, .string ⟨#[]⟩] 122 (0, 0)) := by rw [heap_setCell_self H2.out.1]; rfl
                have hr3 := (heap_setCell_far (a := ⟨qb, 1, none⟩) (cells_ne H2.out.2.1 H2.out.1 (by decide)) (.int .i64 ((num s 2 0 i1 e1).1 : Int))).trans H2.out.2.1
                have hk3 : Keeps [rb] wr (w2.setCell ⟨qb, 1, none⟩ (.int .i64 ((num s 2 0 i1 e1).1 : Int))) := H2.out.2.2.setCell (fun h => absurd h (by show ¬ qb < wr.heap.size; omega)) _
                have H3 := Lib.hid (And.intro hq3 (And.intro hr3 hk3))
                clear hq3 hr3 hk3 H2
                revert H3
                generalize w2.setCell ⟨qb, 1, none⟩ (.int .i64 ((num s 2 0 i1 e1).1 : Int)) = W2
                intro H3
                go_upto_region 23 with (go_at_call 84; refine (class_any W2 rb s _ _ H3.out.2.1 hs).mono ?_; rintro en w3 ⟨rfl, h3, k3⟩
                                        have hqn := k3.heap H3.out.1 (by simpa using cells_ne H3.out.1 H3.out.2.1 (by decide))
                                        have H4 := Lib.hid (And.intro hqn (And.intro h3 (H3.out.2.2.trans k3 (fun _ h _ => h))))
                                        clear h3 k3 hqn)
                have hqr := quest_res HV.out.2.2.2
                have HQR := Lib.hid hqr
                clear hqr
                revert H4 HQR
                generalize hi3 : (num s 2 0 (num s 2 0 i1 e1).2.1 (num s 2 0 i1 e1).2.2).2.1 = i3
                generalize he3 : classE (num s 2 0 (num s 2 0 i1 e1).2.1 (num s 2 0 i1 e1).2.2).1 (num s 2 0 (num s 2 0 i1 e1).2.1 (num s 2 0 i1 e1).2.2).2.2 = e3
                clear hi3 he3
                intro H4 HQR
                go_upto_region 24 with (go_at_call 82; refine (number_any w3 rb s i3 e3 4 H4.out.2.1 hs (by omega)).mono ?_; rintro en w4 ⟨rfl, h4, k4⟩
                                        have hqn := k4.heap H4.out.1 (by simpa using cells_ne H4.out.1 H4.out.2.1 (by decide))
                                        have cq2 : w4.cell? ⟨qb, 2, none⟩ = some (.int .i64 0) := cell_of_heap hqn rfl
                                        have fq2 : w4.frozen? ⟨qb, 2, none⟩ = false := free_of_heap hqn
                                        have H5 := Lib.hid (And.intro hqn (And.intro h4 (H4.out.2.2.trans k4 (fun _ h _ => h))))
                                        clear h4 k4 hqn)
                clear cq2 fq2
                --NEW
                have hrr : ∃ nm, (e3 = 0 → v = strN nm ∧ nm.length ≤ 253) ∧ RecRes s i nm (num s 2 0 i1 e1).1 e3 (num s 4 0 i3 e3).2.1 (num s 4 0 i3 e3).2.2 := by
                  rcases HQR.out with ⟨h1, nm, h2, h3, h4, h5, h6, h7⟩ | ⟨h1, h2⟩
                  · exact ⟨nm, fun _ => ⟨h3, h4⟩, rec_res (.inl ⟨h1, h2, by omega, by omega, by rw [h7, show i3 - 4 = i1 by omega]⟩)⟩
                  · exact ⟨[], fun h => absurd h h1, rec_res (.inr ⟨h1, h2⟩)⟩
                have H4I := Lib.hid (show (num s 4 0 i3 e3).2.2 = 0 → (num s 4 0 i3 e3).2.1 ≤ s.size from fun h => num_le (fun h3 => by
                  rcases HQR.out with ⟨h1, nm, h2, h3, h4, h5, h6, h7⟩ | ⟨h1, h2⟩
                  · omega
                  · exact absurd h3 h1) h)
                have HRR := Lib.hid hrr
                have hq4 : (w4.setCell ⟨qb, 2, none⟩ (.int .i64 ((num s 4 0 i3 e3).1 : Int))).heap[qb]? = some (.cells #[.string v, .int .i64 ((num s 2 0 i1 e1).1 : Int), .int .i64 ((num s 4 0 i3 e3).1 : Int), .string ⟨#[]⟩] 122 (0, 0)) := by rw [heap_setCell_self H5.out.1]; rfl
                have hr4 := (heap_setCell_far (a := ⟨qb, 2, none⟩) (cells_ne H5.out.2.1 H5.out.1 (by decide)) (.int .i64 ((num s 4 0 i3 e3).1 : Int))).trans H5.out.2.1
                have hk4 : Keeps [rb] wr (w4.setCell ⟨qb, 2, none⟩ (.int .i64 ((num s 4 0 i3 e3).1 : Int))) := H5.out.2.2.setCell (fun h => absurd h (by show ¬ qb < wr.heap.size; omega)) _
                have h5 := And.intro hq4 (And.intro hr4 hk4)
                clear hrr hq4 hr4 hk4 H5 H4 H3
                revert h5 HRR H4I
                generalize w4.setCell ⟨qb, 2, none⟩ (.int .i64 ((num s 4 0 i3 e3).1 : Int)) = W4
                generalize num s 4 0 i3 e3 = p4
                obtain ⟨ttl, i4, e4⟩ := p4
                dsimp only
                intro H4I HRR h5
                have hS : (fun wx : World => wx.cell? ⟨qb, 1, none⟩ = some (.int .i64 ((num s 2 0 i1 e1).1 : Int))) W4.drew := cell_of_heap (w := W4.drew) h5.1 rfl
                have H5 := Lib.hid h5
                clear h5
                refine wp_region_seq (fun wx : World => wx.cell? ⟨qb, 1, none⟩ = some (.int .i64 ((num s 2 0 i1 e1).1 : Int)))
                  [(0, 0), (1, 0), (2, 1), (3, 0), (4, 2), (5, 3), (6, 0), (7, 3)]
                  [[5, 2], [7, 2]] (by kernel_rfl) (by kernel_rfl) (fun d _ _ _ _ h => by cases d <;> exact h) ?_
                simp only [picks, List.getD_cons_succ, List.getD_cons_zero]
                (refine seq_pure (v := ?_) (by rfl) ?_ ?_; rotate_left; focus (intro wq; first | (go_simp; done) | (go_simp; with_reducible rfl))); (try simp only [Act.put, List.setIfInBounds_toArray, List.set_cons_zero, List.set_cons_succ])
                (refine seq_pure (v := ?_) (by rfl) ?_ ?_; rotate_left; focus (intro wq; first | (go_simp; done) | (go_simp; with_reducible rfl))); (try simp only [Act.put, List.setIfInBounds_toArray, List.set_cons_zero, List.set_cons_succ])
                (refine seq_read (v := ?_) hS (by rfl) ?_ ?_; rotate_left; focus (intro wq hSq; obtain hq1 := hSq; first | (go_simp; done) | (go_simp; with_reducible rfl))); (try simp only [Act.put, List.setIfInBounds_toArray, List.set_cons_zero, List.set_cons_succ])
                (refine seq_pure (v := ?_) (by rfl) ?_ ?_; rotate_left; focus (intro wq; first | (go_simp; done) | (go_simp; with_reducible rfl))); (try simp only [Act.put, List.setIfInBounds_toArray, List.set_cons_zero, List.set_cons_succ])
                refine seq_act (fun K hK => ?_)
                go_simp
                refine (number_any W4.drew rb s i4 e4 2 H5.out.2.1 hs (by omega)).mono ?_
                rintro en w5 ⟨rfl, h5, k5⟩
                have hqn := k5.heap (w := W4.drew) H5.out.1 (by simpa using cells_ne H5.out.1 H5.out.2.1 (by decide))
                have H6 := Lib.hid (And.intro hqn (And.intro h5 ((H5.out.2.2.drew).trans k5 (fun _ h _ => h))))
                have cq5 : w5.cell? ⟨qb, 1, none⟩ = some (.int .i64 ((num s 2 0 i1 e1).1 : Int)) := cell_of_heap hqn rfl
                clear h5 k5 hqn
                refine hK.out _ _ (by exact cq5) ?_; clear hK; clear K
                (try simp only [Act.put, List.setIfInBounds_toArray, List.set_cons_zero, List.set_cons_succ])
                refine seq_do (fun K hK => ?_)
                go_simp
                refine (data_any w5 rb s _ _ _ _ H6.out.2.1 hs (fun h => num_le H4I.out h) (num_lt2 s i4 e4)).mono ?_
                rintro en w6 hdt
                obtain ⟨k6, dv, i6, e6, rfl, h6, hw6⟩ := data_out hdt
                have hqn := k6.heap H6.out.1 (by simpa using cells_ne H6.out.1 H6.out.2.1 (by decide))
                have cq6 : w6.cell? ⟨qb, 3, none⟩ = some (.string ⟨#[]⟩) := cell_of_heap hqn rfl
                have fq6 : w6.frozen? ⟨qb, 3, none⟩ = false := free_of_heap hqn
                have H7 := Lib.hid (And.intro hqn (And.intro h6 (And.intro (H6.out.2.2.trans k6 (fun _ h _ => h)) hw6)))
                clear hdt k6 h6 hw6 hqn
                refine hK.out _ _ ?_; clear hK; clear K
                (try simp only [Act.put, List.setIfInBounds_toArray, List.set_cons_zero, List.set_cons_succ])
                (refine seq_pure (v := ?_) (by rfl) ?_ ?_; rotate_left; focus (intro wq; first | (go_simp; done) | (go_simp; with_reducible rfl))); (try simp only [Act.put, List.setIfInBounds_toArray, List.set_cons_zero, List.set_cons_succ])
                refine seq_do (fun K hK => ?_)
                go_simp
                refine hK.out _ _ ?_; clear hK; clear K
                (try simp only [Act.put, List.setIfInBounds_toArray, List.set_cons_zero, List.set_cons_succ])
                refine seq_nil ?_
                clear hS cq5
                have hq7 : (w6.setCell ⟨qb, 3, none⟩ (.string dv)).heap[qb]? = some (.cells #[.string v, .int .i64 ((num s 2 0 i1 e1).1 : Int), .int .i64 (ttl : Int), .string dv] 122 (0, 0)) := by rw [heap_setCell_self H7.out.1]; rfl
                have hr7 := (heap_setCell_far (a := ⟨qb, 3, none⟩) (cells_ne H7.out.2.1 H7.out.1 (by decide)) (.string dv)).trans H7.out.2.1
                have hk7 : Keeps [rb] wr (w6.setCell ⟨qb, 3, none⟩ (.string dv)) := H7.out.2.2.1.setCell (fun h => absurd h (by show ¬ qb < wr.heap.size; omega)) _
                have H8 := Lib.hid (And.intro hq7 (And.intro hr7 (And.intro hk7 H7.out.2.2.2)))
                clear hq7 hr7 hk7 H7 H6 cq6 fq6
                revert H8
                generalize w6.setCell ⟨qb, 3, none⟩ (.string dv) = w7'
                intro H8
                have cq0 : w7'.cell? ⟨qb, 0, none⟩ = some (.string v) := cell_of_heap H8.out.1 rfl
                have cq1 : w7'.cell? ⟨qb, 1, none⟩ = some (.int .i64 ((num s 2 0 i1 e1).1 : Int)) := cell_of_heap H8.out.1 rfl
                have cq2 : w7'.cell? ⟨qb, 2, none⟩ = some (.int .i64 (ttl : Int)) := cell_of_heap H8.out.1 rfl
                have cq3 : w7'.cell? ⟨qb, 3, none⟩ = some (.string dv) := cell_of_heap H8.out.1 rfl
                have hd4 := HX.out.1.rd H8.out.2.2.1 H8.out.2.1
                obtain ⟨qv, rv, hdb4, hownQ, hown4⟩ := hd4.d
                have cdb : w7'.cell? ⟨db, 3, none⟩ = some rv := cell_of_heap hdb4 rfl
                have fdb : w7'.frozen? ⟨db, 3, none⟩ = false := free_of_heap hdb4
                have hdbn := lt_of_heap hdb4
                have hql := HX.out.2.2
                have HQ := Lib.hid (And.intro hd4 (And.intro hdb4 hown4))
                clear hd4 hdb4 hown4 hownQ
                go_wp2_with (refine wpList_append_lies _ (by rfl) _ _ _ (by rfl) w.heap.size 122 r0 _ 4 48 Tryz.underlying113 hr0 hrz0 hrz1 hrz2 rfl (by omega) rv rs.length (rV rs) (by rfl) (HQ.out.2.2.alloc _) ⟨w7'.heap.size, 0, none⟩ 1 1 [.string v, .int .i64 ((num s 2 0 i1 e1).1 : Int), .int .i64 (ttl : Int), .string dv] (by rfl) (by rfl) (World.news_of_block heap_alloc_self) (by simp [Value.oneCell']) (by omega) (by unfold maxLen; omega) (by omega) (by have := HQ.out.1.k.size; simp; omega) (w7'.heap.size + 1) (by simp) ?_
                             intro gg cap w8 hown5 hgrow5 hat5 hlt5
                             have hpt := HQ.out.1.putR (q := ⟨v, (num s 2 0 i1 e1).1, ttl, dv⟩) HQ.out.2.1 ((Keeps.refl [] w7').alloc _) hown5 hgrow5
                             have HPT := Lib.hid hpt
                             have hb5 := (hgrow5.block db (by simp; omega) (own_ne HQ.out.2.2 HQ.out.2.1 (by decide))).trans ((heap_alloc_far hdbn).trans HQ.out.2.1)
                             have cdb4 : w8.cell? ⟨db, 3, none⟩ = some rv := cell_of_heap hb5 rfl
                             have fdb4 : w8.frozen? ⟨db, 3, none⟩ = false := free_of_heap hb5
                             clear hown5 hgrow5 hat5 hlt5 hpt hb5)
                go_roundw
                case rel =>
                  have g1 := HPT.out
                  rw [hql] at g1
                  refine ⟨k + 1, rs ++ [⟨v, (num s 2 0 i1 e1).1, ttl, dv⟩], _, _, by go_num, g1, ?_, by simp [hql], HLT.out⟩
                  refine HX.out.2.1.next HLT.out ?_
                  obtain ⟨nm, hnm, hrr⟩ := HRR.out
                  rcases H8.out.2.2.2 with ⟨d, h1, h2, h3, h4⟩ | ⟨h1, h2⟩
                  · rcases hrr with ⟨d', g1, g2, g3, g4, g5, g6⟩ | ⟨g1, g2⟩
                    · rw [h1] at g1
                      simp only [Option.some.injEq] at g1
                      subst g1
                      refine .inl ⟨h4, by omega, _, by rw [h3]; exact g5, ⟨(hnm g2).1, rfl, h2⟩, ?_, g4, ?_⟩
                      · show v.size ≤ 253
                        rw [(hnm g2).1, strN_size]; exact (hnm g2).2
                      · show dv.size ≤ 100000
                        rw [h2, strN_size]; omega
                    · rw [h1] at g1; cases g1
                  · rcases hrr with ⟨d', g1, g2, g3, g4, g5, g6⟩ | ⟨g1, g2⟩
                    · rw [h1] at g1; cases g1
                    · exact .inr ⟨h2, g2⟩
                case measure => simp [intOf]; omega
              · have hq1 : ((e : Int) == 0) = false := by simpa using he
                go_wp2_with fail
                go_meet
                exact ⟨rs, i, e, HX.out.1, FSt.of HX.out.2.1 (fun h => absurd h he)⟩
            · have hlt' : ¬ (k : Int) < (m : Int) := by omega
              go_wp2_with fail
              go_meet
              exact ⟨rs, i, e, HX.out.1, FSt.of HX.out.2.1 (fun h => by omega)⟩
        case rest =>
          --FIN
          obtain ⟨rs, i9, e9, hd9, hf9⟩ := hcut
          have HF9 := Lib.hid (And.intro hd9 hf9)
          clear hd9 hf9 HD1 HR1
          go_upto_region 26 with fail
          have hw9 : wc = wc := rfl
          revert hw9
          generalize hwc : wc = wv at *
          intro _
          go_cut [120] (fun b wx => wv = wx ∧ b = .bool (decide (e9 = 0 ∧ i9 < s.size)))
          case first =>
            have c2 : wv.cell? ⟨rb, 2, none⟩ = some (.int .i64 (e9 : Int)) := cell_of_heap HF9.out.1.r rfl
            have c1 : wv.cell? ⟨rb, 1, none⟩ = some (.int .i64 (i9 : Int)) := cell_of_heap HF9.out.1.r rfl
            by_cases he : e9 = 0
            · have he' : ((e9 : Int) == 0) = true := by simpa using he
              by_cases hi : i9 < s.size
              · have hi' : (i9 : Int) < (s.size : Int) := by omega
                have HB := Lib.hid (show decide (e9 = 0 ∧ i9 < s.size) = true from decide_eq_true ⟨he, hi⟩)
                clear he hi
                go_wp2_with fail
                go_meet
                exact ⟨rfl, by rw [HB.out]⟩
              · have hi' : ¬ (i9 : Int) < (s.size : Int) := by omega
                have HB := Lib.hid (show decide (e9 = 0 ∧ i9 < s.size) = false from decide_eq_false (fun h => hi h.2))
                clear he hi
                go_wp2_with fail
                go_meet
                exact ⟨rfl, by rw [HB.out]⟩
            · have he' : ((e9 : Int) == 0) = false := by simpa using he
              have HB := Lib.hid (show decide (e9 = 0 ∧ i9 < s.size) = false from decide_eq_false (fun h => he h.1))
              clear he
              go_wp2_with fail
              go_meet
              exact ⟨rfl, by rw [HB.out]⟩
          case rest =>
            obtain ⟨rfl, rfl⟩ := hcut
            go_upto_if 120 with fail
            go_cut [] (fun wx => ∃ i e, DecAt w wx bb rb db s i e qs rs ∧ ((e = 0 ∧ DecOut s qs rs) ∨ (e ≠ 0 ∧ decodeP s = none)))
            case first =>
              cases hb : decide (e9 = 0 ∧ i9 < s.size)
              · have HB := Lib.hid hb
                go_wp2_with fail
                go_meet
                refine ⟨i9, e9, HF9.out.1, ?_⟩
                have hb := of_decide_eq_false HB.out
                rcases HF9.out.2 with ⟨h1, h2, h3, h4⟩ | h
                · exact .inl ⟨h1, h3 (by omega)⟩
                · exact .inr h
              · have HB := Lib.hid hb
                have c2 : wv.cell? ⟨rb, 2, none⟩ = some (.int .i64 (e9 : Int)) := cell_of_heap HF9.out.1.r rfl
                have f2 : wv.frozen? ⟨rb, 2, none⟩ = false := free_of_heap HF9.out.1.r
                go_wp2_with fail
                go_meet
                refine ⟨_, _, HF9.out.1.rd ((Keeps.refl _ _).setCell (by simp) _) (rd_err HF9.out.1.r 2), .inr ⟨by decide, ?_⟩⟩
                have hb := of_decide_eq_true HB.out
                rcases HF9.out.2 with ⟨h1, h2, h3, h4⟩ | h
                · exact h4 (by omega)
                · exact absurd hb.1 h.1
            case rest =>
              obtain ⟨ix, e7, hdx, hfx⟩ := hcut
              have HF := Lib.hid (And.intro hdx hfx)
              clear hdx hfx HF9
              revert HF
              generalize wc = wy
              intro HF
              have c2 : wy.cell? ⟨rb, 2, none⟩ = some (.int .i64 (e7 : Int)) := cell_of_heap HF.out.1.r rfl
              by_cases he : e7 = 0
              · have hq1 : ((e7 : Int) != 0) = false := by simpa using he
                have HE := Lib.hid he
                clear he
                obtain ⟨qv, rv, hdb, howq, howr⟩ := HF.out.1.d
                obtain ⟨qa, qc, rfl⟩ := own_slice howq
                obtain ⟨ra, rc, rfl⟩ := own_slice howr
                have hne := HF.out.1.ne
                have d0 : wy.cell? ⟨db, 0, none⟩ = some (.int .i64 (rvl s 0 : Nat)) := cell_of_heap hdb rfl
                have d1 : wy.cell? ⟨db, 1, none⟩ = some (.int .i64 (rvl s 1 : Nat)) := cell_of_heap hdb rfl
                have d2 : wy.cell? ⟨db, 2, none⟩ = some (.slice qa qs.length qc) := cell_of_heap hdb rfl
                have d3 : wy.cell? ⟨db, 3, none⟩ = some (.slice ra rs.length rc) := cell_of_heap hdb rfl
                obtain ⟨z0, y0, p1, f1, p2, f2, p3, f3, hy4⟩ := store4 HF.out.1.b (.int .i64 (rvl s 0 : Nat)) (.int .i64 (rvl s 1 : Nat)) (.slice qa qs.length qc) (.slice ra rs.length rc)
                have g0 := cell_of_heap (o := 0) hy4 rfl
                have g1 := cell_of_heap (o := 1) hy4 rfl
                have g2 := cell_of_heap (o := 2) hy4 rfl
                have g3 := cell_of_heap (o := 3) hy4 rfl
                have HO := Lib.hid (And.intro howq howr)
                clear hdb howq howr hy4 hne
                go_wp2_with fail
                refine bodyPost_ret (v := .tuple #[.agg #[.int .i64 (rvl s 0 : Nat), .int .i64 (rvl s 1 : Nat), (.slice qa qs.length qc), (.slice ra rs.length rc)], .int .i64 0]) ?_ rfl ?_
                · simp only [results, show Tryz.f57.results = #[ResultVar.cell 2 115, ResultVar.tmp 3] from rfl]
                  go_simp
                · have kS : Keeps [bb] wy ((((wy.setCell ⟨bb, 0, none⟩ (.int .i64 (rvl s 0 : Nat))).setCell ⟨bb, 1, none⟩ (.int .i64 (rvl s 1 : Nat))).setCell ⟨bb, 2, none⟩ (.slice qa qs.length qc)).setCell ⟨bb, 3, none⟩ (.slice ra rs.length rc)) := ((((Keeps.refl [bb] wy).setCell (by simp) _).setCell (by simp) _).setCell (by simp) _).setCell (by simp) _
                  refine ⟨HF.out.1.k.trans kS (fun b hb hlt => by have := HF.out.1.lb; simp at hb; omega), .inr ⟨qs, rs, _, _, (.slice qa qs.length qc), (.slice ra rs.length rc), ?_, rfl, kS.own HO.out.1 (fun g hg => ?_), kS.own HO.out.2 (fun g hg => ?_)⟩⟩
                  · rcases HF.out.2 with ⟨_, h⟩ | h
                    · exact h
                    · exact absurd HE.out h.1
                  · obtain ⟨cur, hc⟩ := own_type_at HO.out.1 hg
                    simpa using cells_ne hc HF.out.1.b (by decide)
                  · obtain ⟨cur, hc⟩ := own_type_at HO.out.2 hg
                    simpa using cells_ne hc HF.out.1.b (by decide)
              · have hq1 : ((e7 : Int) != 0) = true := by simpa using he
                go_upto_region 29 with fail
                clear c2
                have hz7 : wy.drew.heap[bb]? = some (.cells #[.int .i64 0, .int .i64 0, .slice none 0 0, .slice none 0 0] 115 (0, 0)) := HF.out.1.b
                have z0 : wy.drew.cell? ⟨bb, 0, none⟩ = some (.int .i64 0) := cell_of_heap hz7 rfl
                have z1 : wy.drew.cell? ⟨bb, 1, none⟩ = some (.int .i64 0) := cell_of_heap hz7 rfl
                have z2 : wy.drew.cell? ⟨bb, 2, none⟩ = some (.slice none 0 0) := cell_of_heap hz7 rfl
                have z3 : wy.drew.cell? ⟨bb, 3, none⟩ = some (.slice none 0 0) := cell_of_heap hz7 rfl
                have y0 : wy.drew.frozen? ⟨bb, 0, none⟩ = false := free_of_heap hz7
                have y1 : wy.drew.frozen? ⟨bb, 1, none⟩ = false := free_of_heap hz7
                have y2 : wy.drew.frozen? ⟨bb, 2, none⟩ = false := free_of_heap hz7
                have y3 : wy.drew.frozen? ⟨bb, 3, none⟩ = false := free_of_heap hz7
                have hy0 : wy.heap[bb]? = some (.cells #[.int .i64 0, .int .i64 0, .slice none 0 0, .slice none 0 0] 115 (0, 0)) := hz7
                have hy1 : (wy.setCell ⟨bb, 0, none⟩ (.int .i64 0)).heap[bb]? = some (.cells #[.int .i64 0, .int .i64 0, .slice none 0 0, .slice none 0 0] 115 (0, 0)) := heap_setCell_self hy0 _
                have p1 : (wy.setCell ⟨bb, 0, none⟩ (.int .i64 0)).drew.cell? ⟨bb, 1, none⟩ = some (.int .i64 0) := cell_of_heap (w := (wy.setCell ⟨bb, 0, none⟩ (.int .i64 0)).drew) hy1 rfl
                have f1 : (wy.setCell ⟨bb, 0, none⟩ (.int .i64 0)).drew.frozen? ⟨bb, 1, none⟩ = false := free_of_heap (w := (wy.setCell ⟨bb, 0, none⟩ (.int .i64 0)).drew) hy1
                have hy2 : ((wy.setCell ⟨bb, 0, none⟩ (.int .i64 0)).setCell ⟨bb, 1, none⟩ (.int .i64 0)).heap[bb]? = some (.cells #[.int .i64 0, .int .i64 0, .slice none 0 0, .slice none 0 0] 115 (0, 0)) := heap_setCell_self hy1 _
                have p2 : ((wy.setCell ⟨bb, 0, none⟩ (.int .i64 0)).setCell ⟨bb, 1, none⟩ (.int .i64 0)).drew.cell? ⟨bb, 2, none⟩ = some (.slice none 0 0) := cell_of_heap (w := ((wy.setCell ⟨bb, 0, none⟩ (.int .i64 0)).setCell ⟨bb, 1, none⟩ (.int .i64 0)).drew) hy2 rfl
                have f2 : ((wy.setCell ⟨bb, 0, none⟩ (.int .i64 0)).setCell ⟨bb, 1, none⟩ (.int .i64 0)).drew.frozen? ⟨bb, 2, none⟩ = false := free_of_heap (w := ((wy.setCell ⟨bb, 0, none⟩ (.int .i64 0)).setCell ⟨bb, 1, none⟩ (.int .i64 0)).drew) hy2
                have hy3 : (((wy.setCell ⟨bb, 0, none⟩ (.int .i64 0)).setCell ⟨bb, 1, none⟩ (.int .i64 0)).setCell ⟨bb, 2, none⟩ (.slice none 0 0)).heap[bb]? = some (.cells #[.int .i64 0, .int .i64 0, .slice none 0 0, .slice none 0 0] 115 (0, 0)) := heap_setCell_self hy2 _
                have p3 : (((wy.setCell ⟨bb, 0, none⟩ (.int .i64 0)).setCell ⟨bb, 1, none⟩ (.int .i64 0)).setCell ⟨bb, 2, none⟩ (.slice none 0 0)).drew.cell? ⟨bb, 3, none⟩ = some (.slice none 0 0) := cell_of_heap (w := (((wy.setCell ⟨bb, 0, none⟩ (.int .i64 0)).setCell ⟨bb, 1, none⟩ (.int .i64 0)).setCell ⟨bb, 2, none⟩ (.slice none 0 0)).drew) hy3 rfl
                have f3 : (((wy.setCell ⟨bb, 0, none⟩ (.int .i64 0)).setCell ⟨bb, 1, none⟩ (.int .i64 0)).setCell ⟨bb, 2, none⟩ (.slice none 0 0)).drew.frozen? ⟨bb, 3, none⟩ = false := free_of_heap (w := (((wy.setCell ⟨bb, 0, none⟩ (.int .i64 0)).setCell ⟨bb, 1, none⟩ (.int .i64 0)).setCell ⟨bb, 2, none⟩ (.slice none 0 0)).drew) hy3
                have hy4 : ((((wy.setCell ⟨bb, 0, none⟩ (.int .i64 0)).setCell ⟨bb, 1, none⟩ (.int .i64 0)).setCell ⟨bb, 2, none⟩ (.slice none 0 0)).setCell ⟨bb, 3, none⟩ (.slice none 0 0)).heap[bb]? = some (.cells #[.int .i64 0, .int .i64 0, .slice none 0 0, .slice none 0 0] 115 (0, 0)) := heap_setCell_self hy3 _
                have e4 : ((((wy.setCell ⟨bb, 0, none⟩ (.int .i64 0)).setCell ⟨bb, 1, none⟩ (.int .i64 0)).setCell ⟨bb, 2, none⟩ (.slice none 0 0)).setCell ⟨bb, 3, none⟩ (.slice none 0 0)).drew.cell? ⟨rb, 2, none⟩ = some (.int .i64 (e7 : Int)) := cell_of_heap (w := ((((wy.setCell ⟨bb, 0, none⟩ (.int .i64 0)).setCell ⟨bb, 1, none⟩ (.int .i64 0)).setCell ⟨bb, 2, none⟩ (.slice none 0 0)).setCell ⟨bb, 3, none⟩ (.slice none 0 0)).drew) (((((Keeps.refl [bb] wy).setCell (by simp) _).setCell (by simp) _).setCell (by simp) _).setCell (by simp) _ |>.heap HF.out.1.r (by simpa using (cells_ne HF.out.1.r HF.out.1.b (by decide)))) rfl
                have c2 : wy.drew.cell? ⟨rb, 2, none⟩ = some (.int .i64 (e7 : Int)) := cell_of_heap (w := wy.drew) HF.out.1.r rfl
                have hS : (fun wx : World => wx.cell? ⟨rb, 2, none⟩ = some (.int .i64 (e7 : Int))) wy.drew := c2
                refine wp_region_seq (fun wx : World => wx.cell? ⟨rb, 2, none⟩ = some (.int .i64 (e7 : Int)))
                  [(0, 0), (1, 0), (2, 0), (3, 0), (4, 1), (5, 2), (6, 0)]
                  [] (by kernel_rfl) (by kernel_rfl) (fun d _ _ _ _ h => by cases d <;> exact h) ?_
                simp only [picks, List.getD_cons_succ, List.getD_cons_zero]
                (refine seq_pure (v := ?_) (by rfl) ?_ ?_; rotate_left; focus (intro wq; first | (go_simp; done) | (go_simp; with_reducible rfl))); (try simp only [Act.put, List.setIfInBounds_toArray, List.set_cons_zero, List.set_cons_succ])
                (refine seq_pure (v := ?_) (by rfl) ?_ ?_; rotate_left; focus (intro wq; first | (go_simp; done) | (go_simp; with_reducible rfl))); (try simp only [Act.put, List.setIfInBounds_toArray, List.set_cons_zero, List.set_cons_succ])
                (refine seq_pure (v := ?_) (by rfl) ?_ ?_; rotate_left; focus (intro wq; first | (go_simp; done) | (go_simp; with_reducible rfl))); (try simp only [Act.put, List.setIfInBounds_toArray, List.set_cons_zero, List.set_cons_succ])
                (refine seq_pure (v := ?_) (by rfl) ?_ ?_; rotate_left; focus (intro wq; first | (go_simp; done) | (go_simp; with_reducible rfl))); (try simp only [Act.put, List.setIfInBounds_toArray, List.set_cons_zero, List.set_cons_succ])
                (refine seq_read (v := ?_) hS (by rfl) ?_ ?_; rotate_left; focus (intro wq hSq; obtain hq1 := hSq; first | (go_simp; done) | (go_simp; with_reducible rfl))); (try simp only [Act.put, List.setIfInBounds_toArray, List.set_cons_zero, List.set_cons_succ])
                refine seq_act (fun K hK => ?_)
                go_simp
                refine hK.out _ _ (by exact e4) ?_
                clear hK K
                (try simp only [Act.put, List.setIfInBounds_toArray, List.set_cons_zero, List.set_cons_succ])
                (refine seq_pure (v := ?_) (by rfl) ?_ ?_; rotate_left; focus (intro wq; first | (go_simp; done) | (go_simp; with_reducible rfl))); (try simp only [Act.put, List.setIfInBounds_toArray, List.set_cons_zero, List.set_cons_succ])
                refine seq_nil ?_
                have g0 : ((((wy.setCell ⟨bb, 0, none⟩ (.int .i64 0)).setCell ⟨bb, 1, none⟩ (.int .i64 0)).setCell ⟨bb, 2, none⟩ (.slice none 0 0)).setCell ⟨bb, 3, none⟩ (.slice none 0 0)).drew.cell? ⟨bb, 0, none⟩ = some (.int .i64 0) := cell_of_heap (w := ((((wy.setCell ⟨bb, 0, none⟩ (.int .i64 0)).setCell ⟨bb, 1, none⟩ (.int .i64 0)).setCell ⟨bb, 2, none⟩ (.slice none 0 0)).setCell ⟨bb, 3, none⟩ (.slice none 0 0)).drew) hy4 rfl
                have g1 : ((((wy.setCell ⟨bb, 0, none⟩ (.int .i64 0)).setCell ⟨bb, 1, none⟩ (.int .i64 0)).setCell ⟨bb, 2, none⟩ (.slice none 0 0)).setCell ⟨bb, 3, none⟩ (.slice none 0 0)).drew.cell? ⟨bb, 1, none⟩ = some (.int .i64 0) := cell_of_heap (w := ((((wy.setCell ⟨bb, 0, none⟩ (.int .i64 0)).setCell ⟨bb, 1, none⟩ (.int .i64 0)).setCell ⟨bb, 2, none⟩ (.slice none 0 0)).setCell ⟨bb, 3, none⟩ (.slice none 0 0)).drew) hy4 rfl
                have g2 : ((((wy.setCell ⟨bb, 0, none⟩ (.int .i64 0)).setCell ⟨bb, 1, none⟩ (.int .i64 0)).setCell ⟨bb, 2, none⟩ (.slice none 0 0)).setCell ⟨bb, 3, none⟩ (.slice none 0 0)).drew.cell? ⟨bb, 2, none⟩ = some (.slice none 0 0) := cell_of_heap (w := ((((wy.setCell ⟨bb, 0, none⟩ (.int .i64 0)).setCell ⟨bb, 1, none⟩ (.int .i64 0)).setCell ⟨bb, 2, none⟩ (.slice none 0 0)).setCell ⟨bb, 3, none⟩ (.slice none 0 0)).drew) hy4 rfl
                have g3 : ((((wy.setCell ⟨bb, 0, none⟩ (.int .i64 0)).setCell ⟨bb, 1, none⟩ (.int .i64 0)).setCell ⟨bb, 2, none⟩ (.slice none 0 0)).setCell ⟨bb, 3, none⟩ (.slice none 0 0)).drew.cell? ⟨bb, 3, none⟩ = some (.slice none 0 0) := cell_of_heap (w := ((((wy.setCell ⟨bb, 0, none⟩ (.int .i64 0)).setCell ⟨bb, 1, none⟩ (.int .i64 0)).setCell ⟨bb, 2, none⟩ (.slice none 0 0)).setCell ⟨bb, 3, none⟩ (.slice none 0 0)).drew) hy4 rfl
                go_wp2_with fail
                refine bodyPost_ret (v := .tuple #[.agg #[.int .i64 0, .int .i64 0, .slice none 0 0, .slice none 0 0], .int .i64 (e7 : Int)]) ?_ rfl ⟨HF.out.1.k.trans ((((((Keeps.refl [bb] wy).setCell (by simp) _).setCell (by simp) _).setCell (by simp) _).setCell (by simp) _).drew) (fun b hb hlt => by have := HF.out.1.lb; simp at hb; omega), .inl ⟨?_, e7, he, rfl⟩⟩
                · simp only [results, show Tryz.f57.results = #[ResultVar.cell 2 115, ResultVar.tmp 3] from rfl]
                  go_simp
                · rcases HF.out.2 with ⟨h, _⟩ | h
                  · exact absurd h he
                  · exact h.2
end Go.Proofs.Sess
/- The reference's numbers, letters and small names. -/
namespace Go.Proofs.Sess
open Go Go.RowKit

/-- The number of the first k bytes. -/
def valP (t : ByteArray) : Nat → Nat
  | 0 => 0
  | k + 1 => valP t k * 256 + byt t k
theorem valP_lt (t : ByteArray) : ∀ k, valP t k < 256 ^ k
  | 0 => by simp [valP]
  | k + 1 => by
    have h1 := valP_lt t k
    have h2 := byt_lt t k
    rw [valP, Nat.pow_succ]
    omega

set_option maxHeartbeats 800000 in
theorem value_any (t : ByteArray) (w : World) (ht : t.size ≤ 7) : Calls Tryz.prog 175 #[.string t] w fun e w' => e = .returned (.int .i64 (valP t t.size : Nat)) ∧ w = w' := by
  go_enter Tryz.func175, Tryz.ntmps175
  go_wp2_with fail
  go_loop [3, 4] (fun n i => ∃ k : Nat, k ≤ t.size ∧ i = .int .i64 (k : Int) ∧ n = .int .i64 (valP t k : Nat)) (fun _ i => t.size - (intOf i).toNat)
  case atStart => exact ⟨0, Nat.zero_le _, rfl, rfl⟩
  case round =>
    obtain ⟨k, hk, rfl, rfl⟩ := hrel
    by_cases hlt : k < t.size
    · have h1 := valP_lt t k
      have h2 : 256 ^ k ≤ 256 ^ 6 := Nat.pow_le_pow_right (by omega) (by omega)
      have h3 : valP t k < 281474976710656 := by omega
      have h4 := byt_get t k hlt
      have h5 := byt_lt t k
      have HV := Lib.hid (show valP t (k + 1) = valP t k * 256 + t[k].toNat by rw [valP, h4])
      have h6 : t[k].toNat < 256 := by omega
      clear h1 h2 h4 h5
      generalize hv : valP t k = v at *
      have hv0 : (0 : Int) ≤ (v : Int) * 256 := by omega
      have hv1 : (v : Int) * 256 ≤ 72057594037927936 := by omega
      have hb1 : (t[k].toNat : Int) ≤ 255 := by omega
      go_wp2_with fail
      go_round
      case rel => exact ⟨k + 1, by omega, by go_num, by rw [HV.out]; go_num⟩
      case measure => simp [intOf]; omega
    · have hkk : k = t.size := by omega
      subst hkk
      go_wp2_with fail
      go_ret
      exact ⟨rfl, rfl⟩

set_option maxHeartbeats 800000 in
theorem get_in (s : ByteArray) (at_ n : Nat) (w : World) (hs : s.size < 1000000) (h : at_ + n ≤ s.size) (h1 : 1 ≤ n) (h7 : n ≤ 7) :
    Calls Tryz.prog 138 #[.string s, .int .i64 (at_ : Int), .int .i64 (n : Int)] w fun e w' => e = .returned (.tuple #[.int .i64 (valP (s.extract at_ (at_ + n)) n : Nat), .int .i64 0]) ∧ w = w' := by
  have hz : (s.extract at_ (at_ + n)).size = n := by simp; omega
  have HV := Lib.hid (value_any (s.extract at_ (at_ + n)) w (by omega))
  have q1 : ¬ (n : Int) < 1 := by omega
  have q2 : ¬ (7 : Int) < (n : Int) := by omega
  have q3 : ¬ (at_ : Int) < 0 := by omega
  have q4 : ¬ (s.size : Int) < (at_ : Int) := by omega
  have q5 : ¬ (s.size : Int) - (at_ : Int) < (n : Int) := by omega
  have HZ := Lib.hid hz
  clear hz
  go_enter Tryz.func138, Tryz.ntmps138
  go_wp2_with fail
  refine HV.out.mono ?_
  rintro e w' ⟨rfl, rfl⟩
  go_wp2_with fail
  go_ret2
  exact ⟨rfl, rfl⟩

set_option maxHeartbeats 800000 in
theorem refnum (s : ByteArray) (at_ n : Nat) (w : World) (hs : s.size < 1000000) (h : at_ + n ≤ s.size) (h1 : 1 ≤ n) (h7 : n ≤ 7) :
    Calls Tryz.prog 114 #[.string s, .int .i64 (at_ : Int), .int .i64 (n : Int)] w fun e w' => e = .returned (.int .i64 (valP (s.extract at_ (at_ + n)) n : Nat)) ∧ w = w' := by
  have HV := Lib.hid (get_in s at_ n w hs h h1 h7)
  clear h h1 h7
  go_enter Tryz.func114, Tryz.ntmps114
  go_wp2_with (go_at_call 138; refine HV.out.mono ?_; rintro e w' ⟨rfl, rfl⟩)
  go_ret
  exact ⟨rfl, rfl⟩

theorem byt_extract (s : ByteArray) (i n k : Nat) (h : i + n ≤ s.size) (hk : k < n) : byt (s.extract i (i + n)) k = byt s (i + k) := by
  have h1 : k < (s.extract i (i + n)).size := by simp; omega
  rw [byt_get _ _ h1, byt_get _ _ (by omega), ByteArray.getElem_extract]
theorem refnum2 (s : ByteArray) (at_ : Nat) (w : World) (hs : s.size < 1000000) (h : at_ + 2 ≤ s.size) :
    Calls Tryz.prog 114 #[.string s, .int .i64 (at_ : Int), .int .i64 2] w fun e w' => e = .returned (.int .i64 (num2 s at_ : Nat)) ∧ w = w' :=
  (refnum s at_ 2 w hs h (by omega) (by omega)).mono fun e w' hh => by
    refine ⟨hh.1.trans ?_, hh.2⟩
    rw [show valP (s.extract at_ (at_ + 2)) 2 = num2 s at_ by
      show (0 * 256 + byt (s.extract at_ (at_ + 2)) 0) * 256 + byt (s.extract at_ (at_ + 2)) 1 = _
      rw [byt_extract s at_ 2 0 h (by omega), byt_extract s at_ 2 1 h (by omega)]; unfold num2; simp]

theorem letN_eq {c : Nat} : letN c = (decide (97 ≤ c ∧ c ≤ 122) || decide (65 ≤ c ∧ c ≤ 90) || decide (48 ≤ c ∧ c ≤ 57) || decide (c = 45) || decide (c = 95)) := by
  unfold letN lowN
  rw [Bool.eq_iff_iff]
  simp only [decide_eq_true_eq, Bool.or_eq_true]
  split <;> omega

set_option maxRecDepth 100000 in
set_option maxHeartbeats 1600000 in
theorem letter_any (c : Nat) (hc : c < 256) (w : World) : Calls Tryz.prog 177 #[.int .u8 (c : Int)] w fun e w' => e = .returned (.bool (letN c)) ∧ w = w' := by
  rw [letN_eq]
  have HD : Hid (∀ (a b x d y : Prop) [Decidable a] [Decidable b] [Decidable x] [Decidable d] [Decidable y], True) := fun _ _ _ _ _ => trivial
  clear HD
  by_cases a1 : (97 : Int) ≤ c
  · by_cases a2 : (c : Int) ≤ 122
    · have E := Lib.hid (show (decide (97 ≤ c ∧ c ≤ 122) || decide (65 ≤ c ∧ c ≤ 90) || decide (48 ≤ c ∧ c ≤ 57) || decide (c = 45) || decide (c = 95)) = true by simp; omega)
      rw [E.out]
      go_enter Tryz.func177, Tryz.ntmps177
      go_wp2_with fail
      go_ret
      exact ⟨rfl, rfl⟩
    · have E := Lib.hid (show (decide (97 ≤ c ∧ c ≤ 122) || decide (65 ≤ c ∧ c ≤ 90) || decide (48 ≤ c ∧ c ≤ 57) || decide (c = 45) || decide (c = 95)) = false by simp; omega)
      rw [E.out]
      have a3 : ¬ (c : Int) ≤ 90 := by omega
      have a4 : ¬ (c : Int) ≤ 57 := by omega
      have a5 : (65 : Int) ≤ c := by omega
      have a6 : (48 : Int) ≤ c := by omega
      have a7 : ((c : Int) == 45) = false := by simp; omega
      have a8 : ((c : Int) == 95) = false := by simp; omega
      go_enter Tryz.func177, Tryz.ntmps177
      go_wp2_with fail
      go_ret
      exact ⟨rfl, rfl⟩
  · by_cases b1 : (65 : Int) ≤ c
    · by_cases b2 : (c : Int) ≤ 90
      · have E := Lib.hid (show (decide (97 ≤ c ∧ c ≤ 122) || decide (65 ≤ c ∧ c ≤ 90) || decide (48 ≤ c ∧ c ≤ 57) || decide (c = 45) || decide (c = 95)) = true by simp; omega)
        rw [E.out]
        go_enter Tryz.func177, Tryz.ntmps177
        go_wp2_with fail
        go_ret
        exact ⟨rfl, rfl⟩
      · have a4 : ¬ (c : Int) ≤ 57 := by omega
        have a6 : (48 : Int) ≤ c := by omega
        have a7 : ((c : Int) == 45) = false := by simp; omega
        by_cases b3 : c = 95
        · subst b3
          go_enter Tryz.func177, Tryz.ntmps177
          go_wp2_with fail
          go_ret
          exact ⟨rfl, rfl⟩
        · have a8 : ((c : Int) == 95) = false := by simp; omega
          have E := Lib.hid (show (decide (97 ≤ c ∧ c ≤ 122) || decide (65 ≤ c ∧ c ≤ 90) || decide (48 ≤ c ∧ c ≤ 57) || decide (c = 45) || decide (c = 95)) = false by simp; omega)
          rw [E.out]
          go_enter Tryz.func177, Tryz.ntmps177
          go_wp2_with fail
          go_ret
          exact ⟨rfl, rfl⟩
    · by_cases c1 : (48 : Int) ≤ c
      · by_cases c2 : (c : Int) ≤ 57
        · have E := Lib.hid (show (decide (97 ≤ c ∧ c ≤ 122) || decide (65 ≤ c ∧ c ≤ 90) || decide (48 ≤ c ∧ c ≤ 57) || decide (c = 45) || decide (c = 95)) = true by simp; omega)
          rw [E.out]
          go_enter Tryz.func177, Tryz.ntmps177
          go_wp2_with fail
          go_ret
          exact ⟨rfl, rfl⟩
        · have a7 : ((c : Int) == 45) = false := by simp; omega
          have a8 : ((c : Int) == 95) = false := by simp; omega
          have E := Lib.hid (show (decide (97 ≤ c ∧ c ≤ 122) || decide (65 ≤ c ∧ c ≤ 90) || decide (48 ≤ c ∧ c ≤ 57) || decide (c = 45) || decide (c = 95)) = false by simp; omega)
          rw [E.out]
          go_enter Tryz.func177, Tryz.ntmps177
          go_wp2_with fail
          go_ret
          exact ⟨rfl, rfl⟩
      · have a8 : ((c : Int) == 95) = false := by simp; omega
        by_cases d1 : c = 45
        · subst d1
          go_enter Tryz.func177, Tryz.ntmps177
          go_wp2_with fail
          go_ret
          exact ⟨rfl, rfl⟩
        · have a7 : ((c : Int) == 45) = false := by simp; omega
          have E := Lib.hid (show (decide (97 ≤ c ∧ c ≤ 122) || decide (65 ≤ c ∧ c ≤ 90) || decide (48 ≤ c ∧ c ≤ 57) || decide (c = 45) || decide (c = 95)) = false by simp; omega)
          rw [E.out]
          go_enter Tryz.func177, Tryz.ntmps177
          go_wp2_with fail
          go_ret
          exact ⟨rfl, rfl⟩

/-- How many bytes stand ahead of the name, as the reference says it. -/
def skipI (t : Nat) : Int := match skipP t with | none => -1 | some k => (k : Int)
theorem named_any (t : Nat) (w : World) : Calls Tryz.prog 140 #[.int .i64 (t : Int)] w fun e w' => e = .returned (.int .i64 (skipI t)) ∧ w = w' := by
  by_cases h2 : t = 2
  · subst h2
    go_enter Tryz.func140, Tryz.ntmps140
    go_wp2_with fail
    go_ret
    exact ⟨rfl, rfl⟩
  · by_cases h5 : t = 5
    · subst h5
      go_enter Tryz.func140, Tryz.ntmps140
      go_wp2_with fail
      go_ret
      exact ⟨rfl, rfl⟩
    · by_cases h12 : t = 12
      · subst h12
        go_enter Tryz.func140, Tryz.ntmps140
        go_wp2_with fail
        go_ret
        exact ⟨rfl, rfl⟩
      · by_cases h15 : t = 15
        · subst h15
          go_enter Tryz.func140, Tryz.ntmps140
          go_wp2_with fail
          go_ret
          exact ⟨rfl, rfl⟩
        · have e : skipI t = -1 := by unfold skipI skipP; rw [if_neg h15, if_neg (by omega)]
          rw [e]
          clear e
          have q2 : ((t : Int) == 2) = false := by simp; omega
          have q5 : ((t : Int) == 5) = false := by simp; omega
          have q12 : ((t : Int) == 12) = false := by simp; omega
          have q15 : ((t : Int) == 15) = false := by simp; omega
          clear h2 h5 h12 h15
          go_enter Tryz.func140, Tryz.ntmps140
          go_wp2_with fail
          go_ret
          exact ⟨rfl, rfl⟩

theorem info5v : (Tryz.prog.info? 5).map (fun i => (i.zero, i.size, i.bytes)) = some (some (.int .u8 0), 1, 1) := by kernel_rfl
/-- The first k bytes in small letters. -/
def lowL (s : ByteArray) (k : Nat) : List Nat := (cut s 0 k).map lowN
theorem lowL_succ (s : ByteArray) (k : Nat) : lowL s (k + 1) = lowL s k ++ [lowN (byt s k)] := by
  unfold lowL; rw [cut_succ]; simp
theorem lowL_len (s : ByteArray) (k : Nat) : (lowL s k).length = k := by simp [lowL, cut]
theorem lowL_lt (s : ByteArray) (k : Nat) : ∀ x ∈ lowL s k, x < 256 := by
  intro x hx
  simp only [lowL, cut, List.mem_map] at hx
  obtain ⟨y, ⟨z, _, rfl⟩, rfl⟩ := hx
  exact lowN_lt (byt_lt _ _)

theorem ownsRow_base0 {w : World} {B : Nat} {e : TypeId} {size : Nat} {v : Value} {n : Nat} {xs : List Value} (h : w.ownsRow B e size v n xs) : w.ownsRow 0 e size v n xs := by
  obtain ⟨h1, h2⟩ := h
  refine ⟨h1, ?_⟩
  rcases h2 with h2 | ⟨g, cap, cur, hv, hb, rest⟩
  · exact .inl h2
  · exact .inr ⟨g, cap, cur, hv, Nat.zero_le _, rest⟩
/-- What an append onto a row of the call's own keeps. -/
theorem low_grown {w wr w3 : World} {e : TypeId} {size : Nat} {v : Value} {n : Nat} {xs : List Value} (hk : Keeps [] w wr) (ho : wr.ownsRow w.heap.size e size v n xs) {o : Obj} (hg : (wr.alloc o).grownBy w3 v.ownBlock) : Keeps [] w w3 :=
  (((hk.alloc o).mono (T := v.ownBlock.toList) (by simp)).grown hg (fun k hk' _ => by simp [hk'])).mono (fun x hx hl => by
    have := (ho.lt x (by simpa using hx)).1; omega)

set_option maxRecDepth 100000 in
set_option maxHeartbeats 1600000 in
theorem lower_any (s : ByteArray) (w : World) (hs : s.size < 1000000) : Calls Tryz.prog 216 #[.string s] w fun e w' => e = .returned (.string (strN (lowL s s.size))) ∧ Keeps [] w w' := by
  obtain ⟨i0, hi0, hz0, hz1, hz2⟩ := info_parts info5v
  go_enter Tryz.func216, Tryz.ntmps216
  go_wp2_with fail
  have hk0 : Keeps [] w (w.alloc (.cells #[] 5)) := (Keeps.refl _ _).alloc _
  have ho0 : (w.alloc (.cells #[] 5)).ownsRow w.heap.size 5 1 (.slice (some ⟨w.heap.size, 0, none⟩) 0 0) 0 (bytesV (lowL s 0)) :=
    ⟨rfl, .inr ⟨w.heap.size, 0, #[], rfl, Nat.le_refl _, heap_alloc_self, by simp, by unfold maxLen; omega, rfl, rfl⟩⟩
  have H0 := Lib.hid (And.intro ho0 hk0)
  clear ho0 hk0
  go_loopw [3, 4] (fun v i wr => ∃ (k : Nat) (a : Option Addr) (c : Nat), k ≤ s.size ∧ i = .int .i64 (k : Int) ∧ v = .slice a k c ∧ wr.ownsRow w.heap.size 5 1 (.slice a k c) k (bytesV (lowL s k)) ∧ Keeps [] w wr) (fun _ i _ => s.size - (intOf i).toNat)
  case atStart => exact ⟨0, _, _, Nat.zero_le _, rfl, rfl, H0.out.1, H0.out.2⟩
  case round =>
    obtain ⟨k, a, c, hk, rfl, rfl, ho, hkp⟩ := hrel
    have HO := Lib.hid (And.intro ho hkp)
    by_cases hlt : k < s.size
    · have hbk := byt_get s k hlt
      have hbl := byt_lt s k
      clear ho hkp
      by_cases h1 : (65 : Int) ≤ (s[k].toNat : Int)
      · by_cases h2 : (s[k].toNat : Int) ≤ 90
        · have HN := Lib.hid (show ((lowN (byt s k) : Nat) : Int) = (s[k].toNat : Int) + 32 by unfold lowN; rw [hbk, if_pos (by omega)]; omega)
          clear hbk hbl
          go_wp2_with (refine wpList_append_lies _ (by rfl) _ _ _ (by rfl) w.heap.size 5 i0 _ 1 1 Tryz.underlying75 hi0 hz0 hz1 hz2 rfl (by omega) (.slice a k c) k (bytesV (lowL s k)) (by rfl) (HO.out.1.alloc _) ⟨wr.heap.size, 0, none⟩ 1 1 [.int .u8 ((s[k].toNat : Int) + 32)] (by rfl) (by rfl) (World.news_of_block heap_alloc_self) (by simp [Value.oneCell']) (by omega) (by unfold maxLen; omega) (by omega) (by have := HO.out.2.size; simp; omega) (wr.heap.size + 1) (by simp) ?_
                       intro gg cap w3 hown3 hgrow3 hat3 hlt3
                       have HP := Lib.hid (And.intro hown3 (And.intro (low_grown HO.out.2 HO.out.1 hgrow3) hat3))
                       clear hown3 hgrow3 hat3 hlt3)
          go_roundw
          case rel =>
            refine ⟨k + 1, some ⟨gg, 0, none⟩, cap, by omega, by go_num, rfl, ?_, HP.out.2.1⟩
            rw [lowL_succ, bytesV_append, bytesV]
            show w3.ownsRow w.heap.size 5 1 (.slice (some ⟨gg, 0, none⟩) (k + 1) cap) (k + 1) (bytesV (lowL s k) ++ [.int .u8 ((lowN (byt s k) : Nat) : Int)])
            rw [HN.out]
            exact HP.out.1
          case measure => simp [intOf]; omega
        · have HN := Lib.hid (show ((lowN (byt s k) : Nat) : Int) = (s[k].toNat : Int) by unfold lowN; rw [hbk, if_neg (by omega)])
          clear hbk hbl
          go_wp2_with (refine wpList_append_lies _ (by rfl) _ _ _ (by rfl) w.heap.size 5 i0 _ 1 1 Tryz.underlying75 hi0 hz0 hz1 hz2 rfl (by omega) (.slice a k c) k (bytesV (lowL s k)) (by rfl) (HO.out.1.alloc _) ⟨wr.heap.size, 0, none⟩ 1 1 [.int .u8 ((s[k].toNat : Int))] (by rfl) (by rfl) (World.news_of_block heap_alloc_self) (by simp [Value.oneCell']) (by omega) (by unfold maxLen; omega) (by omega) (by have := HO.out.2.size; simp; omega) (wr.heap.size + 1) (by simp) ?_
                       intro gg cap w3 hown3 hgrow3 hat3 hlt3
                       have HP := Lib.hid (And.intro hown3 (And.intro (low_grown HO.out.2 HO.out.1 hgrow3) hat3))
                       clear hown3 hgrow3 hat3 hlt3)
          go_roundw
          case rel =>
            refine ⟨k + 1, some ⟨gg, 0, none⟩, cap, by omega, by go_num, rfl, ?_, HP.out.2.1⟩
            rw [lowL_succ, bytesV_append, bytesV]
            show w3.ownsRow w.heap.size 5 1 (.slice (some ⟨gg, 0, none⟩) (k + 1) cap) (k + 1) (bytesV (lowL s k) ++ [.int .u8 ((lowN (byt s k) : Nat) : Int)])
            rw [HN.out]
            exact HP.out.1
          case measure => simp [intOf]; omega
      · have HN := Lib.hid (show ((lowN (byt s k) : Nat) : Int) = (s[k].toNat : Int) by unfold lowN; rw [hbk, if_neg (by omega)])
        clear hbk hbl
        go_wp2_with (refine wpList_append_lies _ (by rfl) _ _ _ (by rfl) w.heap.size 5 i0 _ 1 1 Tryz.underlying75 hi0 hz0 hz1 hz2 rfl (by omega) (.slice a k c) k (bytesV (lowL s k)) (by rfl) (HO.out.1.alloc _) ⟨wr.heap.size, 0, none⟩ 1 1 [.int .u8 ((s[k].toNat : Int))] (by rfl) (by rfl) (World.news_of_block heap_alloc_self) (by simp [Value.oneCell']) (by omega) (by unfold maxLen; omega) (by omega) (by have := HO.out.2.size; simp; omega) (wr.heap.size + 1) (by simp) ?_
                     intro gg cap w3 hown3 hgrow3 hat3 hlt3
                     have HP := Lib.hid (And.intro hown3 (And.intro (low_grown HO.out.2 HO.out.1 hgrow3) hat3))
                     clear hown3 hgrow3 hat3 hlt3)
        go_roundw
        case rel =>
          refine ⟨k + 1, some ⟨gg, 0, none⟩, cap, by omega, by go_num, rfl, ?_, HP.out.2.1⟩
          rw [lowL_succ, bytesV_append, bytesV]
          show w3.ownsRow w.heap.size 5 1 (.slice (some ⟨gg, 0, none⟩) (k + 1) cap) (k + 1) (bytesV (lowL s k) ++ [.int .u8 ((lowN (byt s k) : Nat) : Int)])
          rw [HN.out]
          exact HP.out.1
        case measure => simp [intOf]; omega
    · have hks : k = s.size := by omega
      subst hks
      have hcv := box_convert (out := lowL s s.size) (a := a) (c := c) (w := wr) (by rw [lowL_len]; exact ownsRow_base0 ho) (lowL_lt _ _)
      rw [lowL_len] at hcv
      clear ho hkp
      go_wp2_with fail
      go_ret
      exact ⟨rfl, HO.out.2⟩

set_option maxHeartbeats 800000 in
theorem apply_lower (s : ByteArray) (w : World) (hs : s.size < 1000000) : Calls Tryz.prog 190 #[.int .i64 1, .string s] w fun e w' => e = .returned (.string (strN (lowL s s.size))) ∧ Keeps [] w w' := by
  go_enter Tryz.func190, Tryz.ntmps190
  go_wp2_with (go_at_call 216; refine (lower_any s _ hs).mono ?_; rintro e w' ⟨rfl, hk⟩; have HK := Lib.hid hk; clear hk)
  go_ret
  exact ⟨rfl, HK.out⟩
set_option maxHeartbeats 800000 in
theorem refsmall (s : ByteArray) (w : World) (hs : s.size < 1000000) : Calls Tryz.prog 176 #[.string s] w fun e w' => e = .returned (.string (strN (lowL s s.size))) ∧ Keeps [] w w' := by
  go_enter Tryz.func176, Tryz.ntmps176
  go_wp2_with (go_at_call 190; refine (apply_lower s _ hs).mono ?_; rintro e w' ⟨rfl, hk⟩; have HK := Lib.hid hk; clear hk)
  go_ret
  exact ⟨rfl, HK.out⟩
theorem lowL_strN (l : List Nat) (h : ∀ x ∈ l, x < 256) : lowL (strN l) (strN l).size = l.map lowN := by
  unfold lowL
  congr 1
  apply List.ext_getElem
  · simp [cut, strN, ByteArray.size]
  · intro k h1 h2
    simp only [cut, List.getElem_map, List.getElem_range, Nat.zero_add]
    have hk : k < (strN l).size := by simpa [strN, ByteArray.size] using h2
    rw [byt_get _ _ hk]
    have := h l[k] (List.getElem_mem h2)
    have e : (strN l)[k]'hk = UInt8.ofNat l[k] := by
      show (l.map UInt8.ofNat).toArray[k]'(by simpa using h2) = _
      simp
    rw [e]
    simp [Nat.mod_eq_of_lt this]
end Go.Proofs.Sess
/- The reference's written names. -/
namespace Go.Proofs.Sess
open Go Go.RowKit

/-- What the reference's name gives. -/
def RName (w : World) (R : Option (List Nat × Nat)) (e : Ending) (w' : World) : Prop :=
  Keeps [] w w' ∧ ((∃ nm j, R = some (nm, j) ∧ e = .returned (.tuple #[.string (strN nm), .int .i64 (j : Int), .int .i64 0])) ∨ (R = none ∧ ∃ x : Nat, x ≠ 0 ∧ e = .returned (.tuple #[.string ⟨#[]⟩, .int .i64 0, .int .i64 (x : Int)])))
theorem RName.err {w : World} {R : Option (List Nat × Nat)} (h : R = none) (x : Nat) (hx : x ≠ 0) : RName w R (.returned (.tuple #[.string ⟨#[]⟩, .int .i64 0, .int .i64 (x : Int)])) w := ⟨Keeps.refl _ _, .inr ⟨h, x, hx, rfl⟩⟩

/-- The state of the reference's name. -/
structure NSt (s : ByteArray) (R : Option (List Nat × Nat)) (at1 lim jumps count : Nat) (outL : List Nat) (eo : Option Nat) : Prop where
  run : nameP s at1 lim jumps count (outL.map lowN) eo = R
  le : at1 ≤ s.size
  z : (count = 0 ∧ outL = []) ∨ (1 ≤ count ∧ 1 ≤ outL.length)
  c : count ≤ 24
  l : outL.length ≤ 253
  j : jumps ≤ 24
  lim : lim ≤ s.size
  b : ∀ x ∈ outL, x < 256
  e : ∀ x, eo = some x → x ≤ s.size

theorem to_eq (s : ByteArray) (i : Nat) : num2 s i % 16384 = byt s i % 64 * 256 + byt s (i + 1) := by
  have h1 := byt_lt s i
  have h2 := byt_lt s (i + 1)
  unfold num2
  omega
/-- What stands ahead of a label. -/
def preL (count : Nat) (outL : List Nat) : List Nat := if count = 0 then outL else outL ++ [46]
theorem preL_low (count : Nat) (outL : List Nat) : (preL count outL).map lowN = if count = 0 then outL.map lowN else outL.map lowN ++ [46] := by
  unfold preL; split <;> simp [lowN]
theorem preL_len {count : Nat} {outL : List Nat} (h : (count = 0 ∧ outL = []) ∨ (1 ≤ count ∧ 1 ≤ outL.length)) : (preL count outL).length = outL.length + min outL.length 1 := by
  unfold preL
  rcases h with ⟨h, h'⟩ | ⟨h, h'⟩
  · rw [if_pos h, h']; rfl
  · rw [if_neg (by omega)]; simp; omega
theorem NSt.over {s : ByteArray} {R : Option (List Nat × Nat)} {at1 lim jumps count : Nat} {outL : List Nat} {eo : Option Nat} (h : NSt s R at1 lim jumps count outL eo) (h1 : at1 < s.size) (hn : byt s at1 ≠ 0) (h63 : byt s at1 ≤ 63)
    (hb : 24 < count + 1 ∨ 253 < (preL count outL).length + byt s at1) : R = none := by
  rw [← h.run, nameP_label h1 hn h63]
  have : labelOut s (at1 + 1) count (outL.map lowN) (byt s at1) = none := by
    unfold labelOut
    rw [preL_len h.z] at hb
    rw [if_pos (by simpa using hb)]
  rw [this]
theorem NSt.bad {s : ByteArray} {R : Option (List Nat × Nat)} {at1 lim jumps count : Nat} {outL : List Nat} {eo : Option Nat} (h : NSt s R at1 lim jumps count outL eo) (h1 : at1 < s.size) (hn : byt s at1 ≠ 0) (h63 : byt s at1 ≤ 63)
    (hb : goodL s (at1 + 1) (byt s at1) = false) : R = none := by
  rw [← h.run, nameP_label h1 hn h63]
  have : labelOut s (at1 + 1) count (outL.map lowN) (byt s at1) = none := by
    unfold labelOut
    split
    · rfl
    · rw [hb]; rfl
  rw [this]
theorem goodL_le {s : ByteArray} {i n : Nat} (h : goodL s i n = true) : i + n ≤ s.size := by
  unfold goodL at h
  simp at h
  exact h.1
theorem NSt.good {s : ByteArray} {R : Option (List Nat × Nat)} {at1 lim jumps count : Nat} {outL : List Nat} {eo : Option Nat} (h : NSt s R at1 lim jumps count outL eo) (h1 : at1 < s.size) (hn : byt s at1 ≠ 0) (h63 : byt s at1 ≤ 63)
    (hb : ¬ (24 < count + 1 ∨ 253 < (preL count outL).length + byt s at1)) (hg : goodL s (at1 + 1) (byt s at1) = true) :
    NSt s R (at1 + 1 + byt s at1) lim jumps (count + 1) (preL count outL ++ cut s (at1 + 1) (byt s at1)) eo := by
  have hle := goodL_le hg
  have hl : (cut s (at1 + 1) (byt s at1)).length = byt s at1 := by simp [cut]
  refine ⟨?_, by omega, .inr ⟨by omega, by rw [List.length_append, hl]; omega⟩, by omega, by rw [List.length_append, hl]; omega, h.j, h.lim, ?_, h.e⟩
  · rw [← h.run, nameP_label h1 hn h63]
    have : labelOut s (at1 + 1) count (outL.map lowN) (byt s at1) = some ((preL count outL ++ cut s (at1 + 1) (byt s at1)).map lowN) := by
      unfold labelOut
      rw [preL_len h.z] at hb
      rw [if_neg (by simpa using hb), if_pos hg, List.map_append, preL_low]
    rw [this]
  · intro x hx
    rcases List.mem_append.1 hx with hx | hx
    · unfold preL at hx
      split at hx
      · exact h.b x hx
      · rcases List.mem_append.1 hx with hx | hx
        · exact h.b x hx
        · rw [List.mem_singleton.1 hx]; omega
    · simp only [cut, List.mem_map] at hx
      obtain ⟨y, _, rfl⟩ := hx
      exact byt_lt _ _

theorem goodL_short {s : ByteArray} {i k n : Nat} (hk : k ≤ n) (h : goodL s i k = false) : goodL s i n = false := by
  cases hg : goodL s i n with
  | false => rfl
  | true =>
    exfalso
    unfold goodL at hg h
    simp only [Bool.and_eq_true, decide_eq_true_eq, List.all_eq_true] at hg
    have : (decide (i + k ≤ s.size) && (cut s i k).all letN) = true := by
      simp only [Bool.and_eq_true, decide_eq_true_eq, List.all_eq_true]
      refine ⟨by omega, fun x hx => hg.2 x ?_⟩
      simp only [cut, List.mem_map, List.mem_range] at hx ⊢
      obtain ⟨a, ha, rfl⟩ := hx
      exact ⟨a, by omega, rfl⟩
    rw [this] at h
    cases h
set_option maxRecDepth 100000 in
set_option maxHeartbeats 8000000 in
theorem refname (s : ByteArray) (i : Nat) (w : World) (hs : s.size < 1000000) (hi : i ≤ s.size) : Calls Tryz.prog 139 #[.string s, .int .i64 (i : Int)] w (RName w (nameP s i i 0 0 [] none)) := by
  have hst : NSt s (nameP s i i 0 0 [] none) i i 0 0 [] none := ⟨rfl, hi, .inl ⟨rfl, rfl⟩, by omega, by simp, by omega, hi, by simp, by simp⟩
  have H0 := Lib.hid hst
  clear hst
  revert H0
  generalize nameP s i i 0 0 [] none = R
  intro H0
  go_enter Tryz.func139, Tryz.ntmps139
  go_wp2_with fail
  go_loop [1, 7, 8, 9, 10, 11] (fun a o c j en b => ∃ (at1 lim jumps count : Nat) (outL : List Nat) (eo : Option Nat), a = .int .i64 (at1 : Int) ∧ o = .string (strN outL) ∧ c = .int .i64 (count : Int) ∧ j = .int .i64 (jumps : Int) ∧ en = .int .i64 (enI eo) ∧ b = .int .i64 (lim : Int) ∧ NSt s R at1 lim jumps count outL eo) (fun a _ _ _ _ b => (intOf b).toNat * (s.size + 1) + (s.size - (intOf a).toNat))
  case atStart => exact ⟨i, i, 0, 0, [], none, rfl, rfl, rfl, rfl, rfl, rfl, H0.out⟩
  case round =>
    obtain ⟨at1, lim, jumps, count, outL, eo, rfl, rfl, rfl, rfl, rfl, rfl, hst⟩ := hrel
    have H := Lib.hid hst
    clear hst
    have b1 := H.out.le
    have b2 := H.out.c
    have b3 := H.out.l
    have b4 := H.out.j
    have b5 := H.out.lim
    have bo : (strN outL).size = outL.length := strN_size _
    by_cases hat : at1 < s.size
    · have HN := Lib.hid (byt_get s at1 hat)
      have hbl := byt_lt s at1
      rw [HN.out] at hbl
      go_upto_block 2 with fail
      generalize hn : s[at1].toNat = n at *
      have hbn : byt s at1 = n := HN.out
      have HBN := Lib.hid hbn
      clear hbn
      by_cases h0 : n = 0
      · have hR : R = some (outL.map lowN, eo.getD (at1 + 1)) := by rw [← H.out.run]; exact nameP_zero hat (by rw [HBN.out]; exact h0)
        subst h0
        have hlow := lowL_strN outL H.out.b
        rw [bo] at hlow
        have HR := Lib.hid (And.intro hR hlow)
        clear hR hlow
        cases eo with
        | none =>
          have hen : enI none = -1 := rfl
          rw [hen]
          clear hen
          go_wp2_with (go_at_call 176; refine (refsmall (strN outL) _ (by omega)).mono ?_; rintro e w' ⟨rfl, hk⟩; have HK := Lib.hid hk; clear hk)
          go_ret3
          refine ⟨HK.out, .inl ⟨_, _, HR.out.1, ?_⟩⟩
          rw [← HR.out.2]; rfl
        | some x =>
          have hen : enI (some x) = (x : Int) := rfl
          rw [hen]
          clear hen
          have hx0 : ¬ (x : Int) < 0 := by omega
          go_wp2_with (go_at_call 176; refine (refsmall (strN outL) _ (by omega)).mono ?_; rintro e w' ⟨rfl, hk⟩; have HK := Lib.hid hk; clear hk)
          go_ret3
          refine ⟨HK.out, .inl ⟨_, _, HR.out.1, ?_⟩⟩
          rw [← HR.out.2]; rfl
      · have q0 : ((n : Int) == 0) = false := by simp; omega
        by_cases h192 : (192 : Int) ≤ (n : Int)
        · by_cases hc : (s.size : Int) ≤ (at1 : Int) + 1
          · have HR := Lib.hid (show R = none by rw [← H.out.run]; exact nameP_cut hat (by rw [HBN.out]; omega) (by omega))
            go_wp2_with fail
            go_ret3
            exact RName.err HR.out 1 (by decide)
          · have hto := to_eq s at1
            rw [HBN.out] at hto
            have hb2 := byt_lt s at1
            have hb3 := byt_lt s (at1 + 1)
            have hnum : num2 s at1 = n * 256 + byt s (at1 + 1) := by unfold num2; rw [HBN.out]
            have HTO := Lib.hid (And.intro hto hnum)
            have hn2 : num2 s at1 < 65536 := by omega
            clear hto hnum hb2
            go_upto_region 30 with (go_at_call 114; refine (refnum2 s at1 _ hs (by omega)).mono ?_; rintro e w' ⟨rfl, rfl⟩)
            have HTO1 := HTO.out.1
            have hjm : ((num2 s at1 : Nat) : Int) % 16384 = ((n % 64 * 256 + byt s (at1 + 1) : Nat) : Int) := by omega
            rw [hjm]
            have hto5 : n % 64 * 256 + byt s (at1 + 1) < 16384 := by omega
            have hnb := HBN.out
            generalize hto2 : n % 64 * 256 + byt s (at1 + 1) = tt at *
            clear hjm HTO1
            have HT2 := Lib.hid hto2
            clear hto2 hnb
            have HLT := Lib.hid h192
            by_cases hb1 : (lim : Int) ≤ (tt : Int)
            · have HR := Lib.hid (show R = none by rw [← H.out.run]; exact nameP_bad hat (by rw [HBN.out]; omega) (.inl (by rw [HBN.out, HT2.out]; omega)))
              go_wp2_with fail
              go_ret3
              exact RName.err HR.out 2 (by decide)
            · by_cases hb2 : (24 : Int) < (jumps : Int) + 1
              · have HR := Lib.hid (show R = none by rw [← H.out.run]; exact nameP_bad hat (by rw [HBN.out]; omega) (.inr (by omega)))
                go_wp2_with fail
                go_ret3
                exact RName.err HR.out 2 (by decide)
              · have hrun : nameP s tt tt (jumps + 1) count (outL.map lowN) (some (eo.getD (at1 + 2))) = R := by
                  rw [← H.out.run]
                  have := nameP_jump (s := s) (at_ := at1) (lim := lim) (jumps := jumps) (count := count) (out := outL.map lowN) (en := eo) (by omega) (by rw [HBN.out]; omega) (by rw [HBN.out, HT2.out]; omega)
                  rw [this, HBN.out, HT2.out]
                have hns : NSt s R tt tt (jumps + 1) count outL (some (eo.getD (at1 + 2))) := ⟨hrun, by omega, H.out.z, H.out.c, H.out.l, by omega, by omega, H.out.b, fun x hx => by
                  simp at hx
                  cases eo with
                  | none => simp at hx; omega
                  | some y => simp at hx; have := H.out.e y rfl; omega⟩
                have HNS := Lib.hid hns
                have hless := name_less (S := s.size) (i := at1) (show tt < lim by omega)
                have HLS := Lib.hid hless
                clear hns hrun hless
                cases eo with
                | none =>
                  have hen : enI none = -1 := rfl
                  rw [hen]
                  clear hen
                  go_wp2_with fail
                  go_round
                  case rel => exact ⟨tt, tt, jumps + 1, count, outL, _, rfl, rfl, rfl, by go_num, rfl, rfl, HNS.out⟩
                  case measure => simpa [intOf] using HLS.out
                | some x =>
                  have hen : enI (some x) = (x : Int) := rfl
                  rw [hen]
                  clear hen
                  have hx0 : ¬ (x : Int) < 0 := by omega
                  go_wp2_with fail
                  go_round
                  case rel => exact ⟨tt, tt, jumps + 1, count, outL, _, rfl, rfl, rfl, by go_num, rfl, rfl, HNS.out⟩
                  case measure => simpa [intOf] using HLS.out
        · by_cases h64 : (64 : Int) ≤ (n : Int)
          · have HR := Lib.hid (show R = none by rw [← H.out.run]; exact nameP_mid hat (by rw [HBN.out]; omega) (by rw [HBN.out]; omega))
            go_wp2_with fail
            go_ret3
            exact RName.err HR.out 2 (by decide)
          · have h63 : n ≤ 63 := by omega
            go_upto_if 25 with fail
            go_cut [7] (fun v wx => w = wx ∧ v = .string (strN (preL count outL)))
            case first =>
              rcases H.out.z with ⟨hz1, hz2⟩ | ⟨hz1, hz2⟩
              · have hp : preL count outL = outL := by unfold preL; rw [if_pos hz1]
                have HP := Lib.hid hp
                have hso : strN outL = ⟨#[]⟩ := by rw [hz2]; rfl
                rw [hso]
                have HSO := Lib.hid hso
                have hse : (!(⟨#[]⟩ : ByteArray).toList.isEmpty) = false := by rw [toList_nil rfl]; rfl
                clear hp hz1 hz2 hso
                go_wp2_with fail
                all_goals first
                  | (exfalso; have hx := ‹(!({ data := #[] } : ByteArray).toList.isEmpty) = true›; rw [hse] at hx; cases hx)
                  | (go_meet; exact ⟨rfl, by rw [HP.out, HSO.out]⟩)
              · have hp : strN (preL count outL) = strN outL ++ ⟨#[46]⟩ := by unfold preL; rw [if_neg (by omega), ← strN_append]; rfl
                have HP := Lib.hid hp
                have hse : (!(strN outL).toList.isEmpty) = true := by rw [toList_some (by rw [bo]; omega)]; rfl
                have ha1 : ¬ 9223372036854775807 < (strN outL).size + 1 := by omega
                have ha2 : ¬ 9223372036854775807 < outL.length + 1 := by omega
                clear hp hz1 hz2
                go_wp2_with fail
                all_goals first
                  | (exfalso; have hx := ‹(!(strN outL).toList.isEmpty) = false›; rw [hse] at hx; cases hx)
                  | (go_meet; exact ⟨rfl, by rw [HP.out]⟩)
            case rest =>
              obtain ⟨rfl, rfl⟩ := hcut
              have hpl : (preL count outL).length ≤ 254 := by rw [preL_len H.out.z]; omega
              have bp : (strN (preL count outL)).size = (preL count outL).length := strN_size _
              obtain ⟨P, hP⟩ : ∃ P, P = preL count outL := ⟨_, rfl⟩
              rw [← hP] at hpl bp ⊢
              have HPP := Lib.hid hP
              clear hP
              by_cases hc1 : (24 : Int) < (count : Int) + 1
              · have HR := Lib.hid (H.out.over hat (by rw [HBN.out]; omega) (by rw [HBN.out]; omega) (.inl (by omega)))
                go_wp2_with fail
                go_ret3
                exact RName.err HR.out 2 (by decide)
              · by_cases hc2 : (253 : Int) < (P.length : Int) + (n : Int)
                · have HR := Lib.hid (H.out.over hat (by rw [HBN.out]; omega) (by rw [HBN.out]; omega) (.inr (by rw [HBN.out, ← HPP.out]; omega)))
                  go_wp2_with fail
                  go_ret3
                  exact RName.err HR.out 2 (by decide)
                · go_upto_block 3 with fail
                  go_cut [] (fun wx => w = wx ∧ goodL s (at1 + 1) n = true)
                  case first =>
                    go_wp2_with fail
                    go_loop [14] (fun qv => ∃ q : Nat, qv = .int .i64 (q : Int) ∧ 1 ≤ q ∧ q ≤ n + 1 ∧ goodL s (at1 + 1) (q - 1) = true) (fun qv => n + 1 - (intOf qv).toNat)
                    case atStart => exact ⟨1, rfl, by omega, by omega, by rw [Nat.sub_self, goodL_zero]; simp; omega⟩
                    case round =>
                      obtain ⟨q, rfl, hq1, hq2, hg⟩ := hrel
                      have HG := Lib.hid hg
                      clear hg
                      have hsucc := goodL_succ s (at1 + 1) (q - 1)
                      rw [show q - 1 + 1 = q by omega, show at1 + 1 + (q - 1) = at1 + q by omega, HG.out] at hsucc
                      by_cases hqn : (q : Int) ≤ (n : Int)
                      · by_cases hin : at1 + q < s.size
                        · have hbq := byt_get s (at1 + q) hin
                          have hbl2 := byt_lt s (at1 + q)
                          cases hlet : letN (byt s (at1 + q))
                          · have HR := Lib.hid (H.out.bad hat (by rw [HBN.out]; omega) (by rw [HBN.out]; omega) (by rw [HBN.out]; exact goodL_short (k := q) (by omega) (by rw [hsucc, hlet]; simp)))
                            rw [hbq] at hbl2
                            have hlet' : letN s[at1 + q].toNat = false := by rw [← hbq]; exact hlet
                            clear hbq hlet hsucc
                            go_wp2_with (go_at_call 177; refine (letter_any _ hbl2 _).mono ?_; rintro e w' ⟨rfl, rfl⟩)
                            go_ret3
                            exact RName.err HR.out 2 (by decide)
                          · have HGQ := Lib.hid (show goodL s (at1 + 1) q = true by rw [hsucc, hlet]; simpa using hin)
                            rw [hbq] at hbl2
                            have hlet' : letN s[at1 + q].toNat = true := by rw [← hbq]; exact hlet
                            clear hbq hlet hsucc
                            go_wp2_with (go_at_call 177; refine (letter_any _ hbl2 _).mono ?_; rintro e w' ⟨rfl, rfl⟩)
                            go_round
                            case rel => exact ⟨q + 1, by go_num, by omega, by omega, HGQ.out⟩
                            case measure => simp [intOf]; omega
                        · have HR := Lib.hid (H.out.bad hat (by rw [HBN.out]; omega) (by rw [HBN.out]; omega) (by rw [HBN.out]; exact goodL_short (k := q) (by omega) (by rw [hsucc]; simp; omega)))
                          clear hsucc
                          go_wp2_with fail
                          go_ret3
                          exact RName.err HR.out 1 (by decide)
                      · have hqe : q = n + 1 := by omega
                        subst hqe
                        go_wp2_with fail
                        go_meet
                        exact ⟨rfl, HG.out⟩
                  case rest =>
                    obtain ⟨rfl, hgd⟩ := hcut
                    have hns := H.out.good hat (by rw [HBN.out]; omega) (by rw [HBN.out]; omega) (by rw [HBN.out, ← HPP.out]; omega) (by rw [HBN.out]; exact hgd)
                    have hle := goodL_le hgd
                    rw [HBN.out, ← HPP.out] at hns
                    have HNS := Lib.hid (And.intro hns (show strN P ++ s.extract (at1 + 1) (at1 + 1 + n) = strN (P ++ cut s (at1 + 1) n) by rw [← strN_append, strN_cut hle]))
                    clear hns hgd
                    go_wp2_with fail
                    go_round
                    case rel => exact ⟨at1 + 1 + n, lim, jumps, count + 1, P ++ cut s (at1 + 1) n, eo, by go_num, by rw [HNS.out.2], by go_num, rfl, rfl, rfl, HNS.out.1⟩
                    case measure => simp [intOf]; omega
    · have HR := Lib.hid (show R = none by rw [← H.out.run]; exact nameP_short (by omega))
      have hat' : (s.size : Int) ≤ (at1 : Int) := by omega
      go_wp2_with fail
      go_ret3
      exact RName.err HR.out 1 (by decide)
end Go.Proofs.Sess
/- The reference's questions and records. -/
namespace Go.Proofs.Sess
open Go Go.RowKit

theorem refnum2i (s : ByteArray) (at_ : Nat) (x : Int) (w : World) (hx : x = (at_ : Int)) (hs : s.size < 1000000) (h : at_ + 2 ≤ s.size) :
    Calls Tryz.prog 114 #[.string s, .int .i64 x, .int .i64 2] w fun e w' => e = .returned (.int .i64 (num2 s at_ : Nat)) ∧ w = w' := by
  subst hx; exact refnum2 s at_ w hs h
theorem refnum4i (s : ByteArray) (at_ : Nat) (x : Int) (w : World) (hx : x = (at_ : Int)) (hs : s.size < 1000000) (h : at_ + 4 ≤ s.size) :
    Calls Tryz.prog 114 #[.string s, .int .i64 x, .int .i64 4] w fun e w' => e = .returned (.int .i64 (valP (s.extract at_ (at_ + 4)) 4 : Nat)) ∧ w = w' := by
  subst hx; exact refnum s at_ 4 w hs h (by omega) (by omega)
theorem refname_i (s : ByteArray) (i : Nat) (x : Int) (w : World) (hx : x = (i : Int)) (hs : s.size < 1000000) (hi : i ≤ s.size) : Calls Tryz.prog 139 #[.string s, .int .i64 x] w (RName w (nameP s i i 0 0 [] none)) := by
  subst hx; exact refname s i w hs hi

/-- Two stores into a block of two cells. -/
theorem store2 {w : World} {b : Nat} {c0 c1 : Value} {t : TypeId} (h : w.heap[b]? = some (.cells #[c0, c1] t (0, 0))) (v0 v1 : Value) :
    w.cell? ⟨b, 0, none⟩ = some c0 ∧ w.frozen? ⟨b, 0, none⟩ = false ∧
    (w.setCell ⟨b, 0, none⟩ v0).cell? ⟨b, 1, none⟩ = some c1 ∧ (w.setCell ⟨b, 0, none⟩ v0).frozen? ⟨b, 1, none⟩ = false ∧
    ((w.setCell ⟨b, 0, none⟩ v0).setCell ⟨b, 1, none⟩ v1).heap[b]? = some (.cells #[v0, v1] t (0, 0)) := by
  have h1 : (w.setCell ⟨b, 0, none⟩ v0).heap[b]? = some (.cells #[v0, c1] t (0, 0)) := heap_setCell_self h _
  have h2 : ((w.setCell ⟨b, 0, none⟩ v0).setCell ⟨b, 1, none⟩ v1).heap[b]? = some (.cells #[v0, v1] t (0, 0)) := heap_setCell_self h1 _
  exact ⟨cell_of_heap h rfl, free_of_heap h, cell_of_heap h1 rfl, free_of_heap h1, h2⟩

/-- What the reference's question gives. -/
def RQuest (w : World) (s : ByteArray) (R : Option (List Nat × Nat)) (e : Ending) (w' : World) : Prop :=
  Keeps [] w w' ∧ ((∃ nm j, R = some (nm, j) ∧ e = .returned (.tuple #[.agg #[.string (strN nm), .int .i64 (num2 s (j - 4) : Nat)], .int .i64 (j : Int), .int .i64 0])) ∨ (R = none ∧ ∃ x : Nat, x ≠ 0 ∧ e = .returned (.tuple #[.agg #[.string ⟨#[]⟩, .int .i64 0], .int .i64 0, .int .i64 (x : Int)])))

theorem quest_end {w w1 : World} {bb : Nat} {v0 v1 : Value} (h1 : Keeps [] w w1) (hb : w.heap.size ≤ bb) : Keeps [] w ((w1.setCell ⟨bb, 0, none⟩ v0).setCell ⟨bb, 1, none⟩ v1) :=
  (h1.setCell (fun h => absurd h (by show ¬ bb < w.heap.size; omega)) _).setCell (fun h => absurd h (by show ¬ bb < w.heap.size; omega)) _

set_option maxRecDepth 100000 in
set_option maxHeartbeats 4000000 in
theorem refquest (s : ByteArray) (i : Nat) (w : World) (hs : s.size < 1000000) (hi : i ≤ s.size) : Calls Tryz.prog 115 #[.string s, .int .i64 (i : Int)] w (RQuest w s (questP s i)) := by
  go_enter Tryz.func115, Tryz.ntmps115
  go_wp2_with fail
  refine (refname s i _ hs hi).mono ?_
  rintro e w1 ⟨hk, hr⟩
  have hb0 : w1.heap[w.heap.size]? = some (.cells #[.string ⟨#[]⟩, .int .i64 0] 120 (0, 0)) := hk.heap heap_alloc_self (by simp)
  have hk1 : Keeps [] w w1 := ((Keeps.refl [] w).alloc _).trans hk (by simp)
  generalize hbb : w.heap.size = bb at *
  have HK := Lib.hid (And.intro hk1 hb0)
  have hbl : bb < w1.heap.size := lt_of_heap hb0
  clear hk hk1
  obtain ⟨z0, y0, z1, y1, hz⟩ := store2 hb0 (.string ⟨#[]⟩) (.int .i64 0)
  have g0 := cell_of_heap (o := 0) hz rfl
  have g1 := cell_of_heap (o := 1) hz rfl
  rcases hr with ⟨nm, j, hR, rfl⟩ | ⟨hR, x, hx, rfl⟩
  · have hle := (nameP_le _ _ _ _ _ _ _ nm j (Nat.le_refl _) (by simp) hR)
    have hj1 := hle.1
    have hj2 := hle.2.2 rfl
    have HR := Lib.hid hR
    clear hR hle
    by_cases h2 : (s.size : Int) < (j : Int) + 2
    · have hq : questP s i = none := by unfold questP; rw [HR.out]; dsimp only; rw [if_pos (by omega)]
      have HQ := Lib.hid hq
      clear hq hb0 hz
      go_wp2_with fail
      refine bodyPost_ret (v := .tuple #[.agg #[.string ⟨#[]⟩, .int .i64 0], .int .i64 0, .int .i64 1]) ?_ rfl ⟨quest_end HK.out.1 (by omega), .inr ⟨HQ.out, 1, by decide, rfl⟩⟩
      simp only [results, show Tryz.f115.results = #[ResultVar.cell 4 120, ResultVar.tmp 5, ResultVar.tmp 6] from rfl]
      go_simp
    · by_cases h4 : (s.size : Int) < (j : Int) + 4
      · have hq : questP s i = none := by unfold questP; rw [HR.out]; dsimp only; rw [if_pos (by omega)]
        have HQ := Lib.hid hq
        clear hq hb0 hz
        go_wp2_with fail
        refine bodyPost_ret (v := .tuple #[.agg #[.string ⟨#[]⟩, .int .i64 0], .int .i64 0, .int .i64 1]) ?_ rfl ⟨quest_end HK.out.1 (by omega), .inr ⟨HQ.out, 1, by decide, rfl⟩⟩
        simp only [results, show Tryz.f115.results = #[ResultVar.cell 4 120, ResultVar.tmp 5, ResultVar.tmp 6] from rfl]
        go_simp
      · by_cases h1 : num2 s (j + 2) = 1
        · have hq : questP s i = some (nm, j + 4) := by unfold questP; rw [HR.out]; dsimp only; rw [if_neg (by omega), if_pos h1]
          obtain ⟨_, _, z1, y1, hz⟩ := store2 hb0 (.string (strN nm)) (.int .i64 (num2 s j : Nat))
          have g0' := cell_of_heap (o := 0) hz rfl
          have g1' := cell_of_heap (o := 1) hz rfl
          have h1' : ((num2 s (j + 2) : Nat) : Int) = 1 := by omega
          have HQ := Lib.hid hq
          clear hq hb0 hz h1
          go_upto_region 8 with (go_at_call 114; refine (refnum2i s (j + 2) ((j : Int) + 2) _ (by omega) hs (by omega)).mono ?_; rintro e w' ⟨rfl, rfl⟩)
          go_wp2_with (go_at_call 114; refine (refnum2i s j (j : Int) _ rfl hs (by omega)).mono ?_; rintro e w' ⟨rfl, rfl⟩)
          refine bodyPost_ret (v := .tuple #[.agg #[.string (strN nm), .int .i64 (num2 s j : Nat)], .int .i64 ((j + 4 : Nat) : Int), .int .i64 0]) ?_ rfl ⟨quest_end HK.out.1 (by omega), .inl ⟨nm, j + 4, HQ.out, by rw [show j + 4 - 4 = j by omega]⟩⟩
          simp only [results, show Tryz.f115.results = #[ResultVar.cell 4 120, ResultVar.tmp 5, ResultVar.tmp 6] from rfl]
          go_simp
        · have hq : questP s i = none := by unfold questP; rw [HR.out]; dsimp only; rw [if_neg (by omega), if_neg h1]
          have h1' : (((num2 s (j + 2) : Nat) : Int) == 1) = false := by simp; omega
          have h1'' : (((num2 s (j + 2) : Nat) : Int) != 1) = true := by simp; omega
          have HQ := Lib.hid hq
          clear hq hb0 hz h1
          go_wp2_with (go_at_call 114; refine (refnum2i s (j + 2) ((j : Int) + 2) _ (by omega) hs (by omega)).mono ?_; rintro e w' ⟨rfl, rfl⟩)
          refine bodyPost_ret (v := .tuple #[.agg #[.string ⟨#[]⟩, .int .i64 0], .int .i64 0, .int .i64 2]) ?_ rfl ⟨quest_end HK.out.1 (by omega), .inr ⟨HQ.out, 2, by decide, rfl⟩⟩
          simp only [results, show Tryz.f115.results = #[ResultVar.cell 4 120, ResultVar.tmp 5, ResultVar.tmp 6] from rfl]
          go_simp
  · have hq : questP s i = none := by unfold questP; rw [hR]
    have hx' : ((x : Int) != 0) = true := by simpa using hx
    have HQ := Lib.hid (And.intro hq hx)
    clear hR hq hb0 hz hx
    go_wp2_with fail
    refine bodyPost_ret (v := .tuple #[.agg #[.string ⟨#[]⟩, .int .i64 0], .int .i64 0, .int .i64 (x : Int)]) ?_ rfl ⟨quest_end HK.out.1 (by omega), .inr ⟨HQ.out.1, x, HQ.out.2, rfl⟩⟩
    simp only [results, show Tryz.f115.results = #[ResultVar.cell 4 120, ResultVar.tmp 5, ResultVar.tmp 6] from rfl]
    go_simp
end Go.Proofs.Sess
namespace Go.Proofs.Sess
open Go Go.RowKit

theorem num2_lt (s : ByteArray) (i : Nat) : num2 s i < 65536 := by
  have h1 := byt_lt s i
  have h2 := byt_lt s (i + 1)
  unfold num2; omega
/-- What the reference's record gives. -/
def RRec (w : World) (R : Option (RecP × Nat)) (e : Ending) (w' : World) : Prop :=
  Keeps [] w w' ∧ ((∃ x j, R = some (x, j) ∧ ∃ ttl : Nat, e = .returned (.tuple #[.agg #[.string (strN x.name), .int .i64 (x.type : Int), .int .i64 (ttl : Int), .string (strN x.data)], .int .i64 (j : Int), .int .i64 0])) ∨
    (R = none ∧ ∃ x : Nat, x ≠ 0 ∧ e = .returned (.tuple #[.agg #[.string ⟨#[]⟩, .int .i64 0, .int .i64 0, .string ⟨#[]⟩], .int .i64 0, .int .i64 (x : Int)])))
theorem rec_end {w w1 : World} {bb : Nat} {v0 v1 v2 v3 : Value} (h1 : Keeps [] w w1) (hb : w.heap.size ≤ bb) : Keeps [] w ((((w1.setCell ⟨bb, 0, none⟩ v0).setCell ⟨bb, 1, none⟩ v1).setCell ⟨bb, 2, none⟩ v2).setCell ⟨bb, 3, none⟩ v3) :=
  (((h1.setCell (fun h => absurd h (by show ¬ bb < w.heap.size; omega)) _).setCell (fun h => absurd h (by show ¬ bb < w.heap.size; omega)) _).setCell (fun h => absurd h (by show ¬ bb < w.heap.size; omega)) _).setCell (fun h => absurd h (by show ¬ bb < w.heap.size; omega)) _
theorem questP_le {s : ByteArray} {i j : Nat} {nm : List Nat} (h : questP s i = some (nm, j)) : 4 ≤ j ∧ j ≤ s.size ∧ nm.length ≤ 253 := by
  unfold questP at h
  split at h
  · cases h
  · rename_i n2 i2 hn
    have hl := nameP_len _ _ _ _ _ _ _ n2 i2 (Nat.le_refl _) (by simp) (.inl rfl) (fun _ => rfl) hn
    split at h
    · cases h
    · split at h
      · simp at h
        rw [← h.1]
        omega
      · cases h

set_option maxRecDepth 100000 in
set_option maxHeartbeats 8000000 in
theorem refrec (s : ByteArray) (i : Nat) (w : World) (hs : s.size < 1000000) (hi : i ≤ s.size) : Calls Tryz.prog 116 #[.string s, .int .i64 (i : Int)] w (RRec w (recP s i)) := by
  go_enter Tryz.func116, Tryz.ntmps116
  go_wp2_with fail
  refine (refquest s i _ hs hi).mono ?_
  rintro e w1 ⟨hk, hr⟩
  have hb0 : w1.heap[w.heap.size]? = some (.cells #[.string ⟨#[]⟩, .int .i64 0, .int .i64 0, .string ⟨#[]⟩] 122 (0, 0)) := hk.heap heap_alloc_self (by simp)
  have hk1 : Keeps [] w w1 := ((Keeps.refl [] w).alloc _).trans hk (by simp)
  have hsz := hk1.size
  generalize hbb : w.heap.size = bb at *
  have hbl : bb < w1.heap.size := lt_of_heap hb0
  clear hk
  rcases hr with ⟨nm, j, hR, rfl⟩ | ⟨hR, x, hx, rfl⟩
  · obtain ⟨hj1, hj2, hj3⟩ := questP_le hR
    go_upto_region 2 with fail
    have hbx : (w1.alloc (.cells #[.string (strN nm), .int .i64 (num2 s (j - 4) : Nat)] 120)).heap[bb]? = some (.cells #[.string ⟨#[]⟩, .int .i64 0, .int .i64 0, .string ⟨#[]⟩] 122 (0, 0)) := (heap_alloc_far hbl).trans hb0
    have hkx := hk1.alloc (.cells #[.string (strN nm), .int .i64 (num2 s (j - 4) : Nat)] 120)
    have hqx : (w1.alloc (.cells #[.string (strN nm), .int .i64 (num2 s (j - 4) : Nat)] 120)).heap[w1.heap.size]? = some (.cells #[.string (strN nm), .int .i64 (num2 s (j - 4) : Nat)] 120 (0, 0)) := heap_alloc_self
    have HB := Lib.hid (And.intro hbx (And.intro hkx (And.intro hR hqx)))
    clear hbx hkx hqx hR hb0 hk1
    revert HB
    generalize w1.alloc (.cells #[.string (strN nm), .int .i64 (num2 s (j - 4) : Nat)] 120) = W
    intro HB
    generalize hqb : w1.heap.size = qb at *
    by_cases h6 : (s.size : Int) < (j : Int) + 6
    · have HQ := Lib.hid (show recP s i = none by unfold recP; rw [HB.out.2.2.1]; dsimp only; rw [if_pos (by omega)])
      obtain ⟨z0, y0, z1, y1, z2, y2, z3, y3, hz⟩ := store4 HB.out.1 (.string ⟨#[]⟩) (.int .i64 0) (.int .i64 0) (.string ⟨#[]⟩)
      have g0 := cell_of_heap (o := 0) hz rfl
      have g1 := cell_of_heap (o := 1) hz rfl
      have g2 := cell_of_heap (o := 2) hz rfl
      have g3 := cell_of_heap (o := 3) hz rfl
      clear hz
      go_wp2_with fail
      refine bodyPost_ret (v := .tuple #[.agg #[.string ⟨#[]⟩, .int .i64 0, .int .i64 0, .string ⟨#[]⟩], .int .i64 0, .int .i64 1]) ?_ rfl ⟨rec_end HB.out.2.1 (by omega), .inr ⟨HQ.out, 1, by decide, rfl⟩⟩
      simp only [results, show Tryz.f116.results = #[ResultVar.cell 4 122, ResultVar.tmp 5, ResultVar.tmp 6] from rfl]
      go_simp
    · have hn := num2_lt s (j + 4)
      have h6n : j + 6 ≤ s.size := by omega
      by_cases h7 : (s.size : Int) < (j : Int) + 6 + ((num2 s (j + 4) : Nat) : Int)
      · have HQ := Lib.hid (show recP s i = none by unfold recP; rw [HB.out.2.2.1]; dsimp only; rw [if_neg (by omega), if_pos (by omega)])
        obtain ⟨z0, y0, z1, y1, z2, y2, z3, y3, hz⟩ := store4 HB.out.1 (.string ⟨#[]⟩) (.int .i64 0) (.int .i64 0) (.string ⟨#[]⟩)
        have g0 := cell_of_heap (o := 0) hz rfl
        have g1 := cell_of_heap (o := 1) hz rfl
        have g2 := cell_of_heap (o := 2) hz rfl
        have g3 := cell_of_heap (o := 3) hz rfl
        clear hz
        go_wp2_with (go_at_call 114; refine (refnum2i s (j + 4) ((j : Int) + 4) _ (by omega) hs (by omega)).mono ?_; rintro e w' ⟨rfl, rfl⟩)
        refine bodyPost_ret (v := .tuple #[.agg #[.string ⟨#[]⟩, .int .i64 0, .int .i64 0, .string ⟨#[]⟩], .int .i64 0, .int .i64 1]) ?_ rfl ⟨rec_end HB.out.2.1 (by omega), .inr ⟨HQ.out, 1, by decide, rfl⟩⟩
        simp only [results, show Tryz.f116.results = #[ResultVar.cell 4 122, ResultVar.tmp 5, ResultVar.tmp 6] from rfl]
        go_simp
      · have HN := Lib.hid (show recP s i = match dataP s (num2 s (j - 4)) (j + 6) (num2 s (j + 4)) with | none => none | some d => some (⟨nm, num2 s (j - 4), d⟩, j + 6 + num2 s (j + 4)) by unfold recP; rw [HB.out.2.2.1]; dsimp only; rw [if_neg (by omega), if_neg (by omega)]; cases dataP s (num2 s (j - 4)) (j + 6) (num2 s (j + 4)) <;> rfl)
        have q0 : W.cell? ⟨qb, 0, none⟩ = some (.string (strN nm)) := cell_of_heap HB.out.2.2.2 rfl
        have q1 : W.cell? ⟨qb, 1, none⟩ = some (.int .i64 (num2 s (j - 4) : Nat)) := cell_of_heap HB.out.2.2.2 rfl
        have hql := lt_of_heap HB.out.2.2.2
        have ht := num2_lt s (j - 4)
        go_upto_region 6 with (go_at_call 114; refine (refnum2i s (j + 4) ((j : Int) + 4) _ (by omega) hs (by omega)).mono ?_; rintro e w' ⟨rfl, rfl⟩)
        go_cut [9] (fun v wx => ∃ (rb ttl : Nat), v = .pointer (some ⟨rb, 0, none⟩) ∧ wx.heap[rb]? = some (.cells #[.string (strN nm), .int .i64 (num2 s (j - 4) : Nat), .int .i64 (ttl : Int), .string ⟨#[]⟩] 122 (0, 0)) ∧ Keeps [] W wx ∧ W.heap.size ≤ rb)
        case first =>
          go_region_held3 (fun w' => w'.cell? ⟨qb, 0, none⟩ = some (.string (strN nm)) ∧ w'.cell? ⟨qb, 1, none⟩ = some (.int .i64 (num2 s (j - 4) : Nat))) (go_keep)
            ((go_at_call 114; refine (refnum4i s j (j : Int) _ rfl hs (by omega)).mono ?_; rintro e w' ⟨rfl, rfl⟩))
          all_goals
            go_wp2_with fail
            go_meet
            exact ⟨_, _, rfl, heap_alloc_self (w := W), ((Keeps.refl [] W).alloc _).drew, Nat.le_refl _⟩
        case rest =>
          obtain ⟨rb, ttl, rfl, hrb, hkw, hrl⟩ := hcut
          have hbw := hkw.heap HB.out.1 (by simp)
          have hkk := HB.out.2.1.trans hkw (by simp)
          have hbr : bb ≠ rb := by have := lt_of_heap HB.out.1; omega
          have HW := Lib.hid (And.intro hrb (And.intro hkk hbw))
          have r1 : wc.cell? ⟨rb, 1, none⟩ = some (.int .i64 (num2 s (j - 4) : Nat)) := cell_of_heap hrb rfl
          clear hrb hkk hbw hkw q0 q1
          have hsk : (skipP (num2 s (j - 4)) = none) ∨ ∃ k, k ≤ 2 ∧ skipP (num2 s (j - 4)) = some k := by
            unfold skipP
            by_cases h15 : num2 s (j - 4) = 15
            · rw [if_pos h15]; exact .inr ⟨2, by omega, rfl⟩
            · rw [if_neg h15]
              by_cases h0 : num2 s (j - 4) = 2 ∨ num2 s (j - 4) = 5 ∨ num2 s (j - 4) = 12
              · rw [if_pos h0]; exact .inr ⟨0, by omega, rfl⟩
              · rw [if_neg h0]; exact .inl rfl
          rcases hsk with hsk | ⟨k, hk2, hsk⟩
          · have hd : dataP s (num2 s (j - 4)) (j + 6) (num2 s (j + 4)) = some (cut s (j + 6) (num2 s (j + 4))) := by unfold dataP; rw [hsk]
            have hsi : skipI (num2 s (j - 4)) = -1 := by unfold skipI; rw [hsk]
            have hnn := HN.out
            rw [hd] at hnn
            have hcut : strN (cut s (j + 6) (num2 s (j + 4))) = s.extract (j + 6) (j + 6 + num2 s (j + 4)) := strN_cut (by omega)
            have HD := Lib.hid (And.intro hnn hcut)
            have r3 : wc.cell? ⟨rb, 3, none⟩ = some (.string ⟨#[]⟩) := cell_of_heap HW.out.1 rfl
            have f3 : wc.frozen? ⟨rb, 3, none⟩ = false := free_of_heap HW.out.1
            clear hd hnn hcut hsk
            go_upto_region 12 with (first
              | (go_at_call 114; refine (refnum2i s (j + 4) ((j : Int) + 4) _ (by omega) hs (by omega)).mono ?_; rintro e w' ⟨rfl, rfl⟩)
              | (go_at_call 140; refine (named_any (num2 s (j - 4)) _).mono ?_; rw [hsi]; rintro e w' ⟨rfl, rfl⟩))
            have hrb3 : (wc.setCell ⟨rb, 3, none⟩ (.string (s.extract (j + 6) (j + 6 + num2 s (j + 4))))).heap[rb]? = some (.cells #[.string (strN nm), .int .i64 (num2 s (j - 4) : Nat), .int .i64 (ttl : Int), .string (s.extract (j + 6) (j + 6 + num2 s (j + 4)))] 122 (0, 0)) := by rw [heap_setCell_self HW.out.1]; rfl
            have hbb3 := (heap_setCell_far (a := ⟨rb, 3, none⟩) hbr (.string (s.extract (j + 6) (j + 6 + num2 s (j + 4))))).trans HW.out.2.2
            have hkk3 : Keeps [] w (wc.setCell ⟨rb, 3, none⟩ (.string (s.extract (j + 6) (j + 6 + num2 s (j + 4))))) := HW.out.2.1.setCell (fun h => absurd h (by have := HB.out.2.1.size; show ¬ rb < w.heap.size; omega)) _
            have H3 := Lib.hid (And.intro hrb3 (And.intro hkk3 hbb3))
            clear hrb3 hkk3 hbb3 r3 f3
            revert H3
            generalize wc.setCell ⟨rb, 3, none⟩ (.string (s.extract (j + 6) (j + 6 + num2 s (j + 4)))) = W3
            intro H3
            have q0 : W3.cell? ⟨rb, 0, none⟩ = some (.string (strN nm)) := cell_of_heap H3.out.1 rfl
            have q1 : W3.cell? ⟨rb, 1, none⟩ = some (.int .i64 (num2 s (j - 4) : Nat)) := cell_of_heap H3.out.1 rfl
            have q2 : W3.cell? ⟨rb, 2, none⟩ = some (.int .i64 (ttl : Int)) := cell_of_heap H3.out.1 rfl
            have q3 : W3.cell? ⟨rb, 3, none⟩ = some (.string (s.extract (j + 6) (j + 6 + num2 s (j + 4)))) := cell_of_heap H3.out.1 rfl
            obtain ⟨z0, y0, z1, y1, z2, y2, z3, y3, hz⟩ := store4 H3.out.2.2 (.string (strN nm)) (.int .i64 (num2 s (j - 4) : Nat)) (.int .i64 (ttl : Int)) (.string (s.extract (j + 6) (j + 6 + num2 s (j + 4))))
            have g0 := cell_of_heap (o := 0) hz rfl
            have g1 := cell_of_heap (o := 1) hz rfl
            have g2 := cell_of_heap (o := 2) hz rfl
            have g3 := cell_of_heap (o := 3) hz rfl
            clear hz
            go_wp2_with fail
            refine bodyPost_ret (v := .tuple #[.agg #[.string (strN nm), .int .i64 (num2 s (j - 4) : Nat), .int .i64 (ttl : Int), .string (s.extract (j + 6) (j + 6 + num2 s (j + 4)))], .int .i64 ((j + 6 + num2 s (j + 4) : Nat) : Int), .int .i64 0]) ?_ rfl ⟨rec_end H3.out.2.1 (by omega), .inl ⟨⟨nm, num2 s (j - 4), cut s (j + 6) (num2 s (j + 4))⟩, j + 6 + num2 s (j + 4), HD.out.1, ttl, by rw [HD.out.2]⟩⟩
            simp only [results, show Tryz.f116.results = #[ResultVar.cell 4 122, ResultVar.tmp 5, ResultVar.tmp 6] from rfl]
            go_simp
          · have hsi : skipI (num2 s (j - 4)) = (k : Int) := by unfold skipI; rw [hsk]
            have hdp : dataP s (num2 s (j - 4)) (j + 6) (num2 s (j + 4)) = if s.size < j + 6 + k then none else match nameP s (j + 6 + k) (j + 6 + k) 0 0 [] none with | none => none | some (nm, i) => if i = j + 6 + num2 s (j + 4) then some (cut s (j + 6) k ++ nm) else none := by unfold dataP; rw [hsk]; dsimp only; cases nameP s (j + 6 + k) (j + 6 + k) 0 0 [] none <;> rfl
            have HDP := Lib.hid hdp
            clear hdp hsk
            by_cases h8 : (s.size : Int) < (j : Int) + 6 + (k : Int)
            · have HQ := Lib.hid (show recP s i = none by rw [HN.out, HDP.out, if_pos (by omega)])
              obtain ⟨z0, y0, z1, y1, z2, y2, z3, y3, hz⟩ := store4 HW.out.2.2 (.string ⟨#[]⟩) (.int .i64 0) (.int .i64 0) (.string ⟨#[]⟩)
              have g0 := cell_of_heap (o := 0) hz rfl
              have g1 := cell_of_heap (o := 1) hz rfl
              have g2 := cell_of_heap (o := 2) hz rfl
              have g3 := cell_of_heap (o := 3) hz rfl
              clear hz
              go_wp2_with (first
                | (go_at_call 114; refine (refnum2i s (j + 4) ((j : Int) + 4) _ (by omega) hs (by omega)).mono ?_; rintro e w' ⟨rfl, rfl⟩)
                | (go_at_call 140; refine (named_any (num2 s (j - 4)) _).mono ?_; rw [hsi]; rintro e w' ⟨rfl, rfl⟩))
              refine bodyPost_ret (v := .tuple #[.agg #[.string ⟨#[]⟩, .int .i64 0, .int .i64 0, .string ⟨#[]⟩], .int .i64 0, .int .i64 1]) ?_ rfl ⟨rec_end HW.out.2.1 (by omega), .inr ⟨HQ.out, 1, by decide, rfl⟩⟩
              simp only [results, show Tryz.f116.results = #[ResultVar.cell 4 122, ResultVar.tmp 5, ResultVar.tmp 6] from rfl]
              go_simp
            · go_upto_region 16 with (first
                | (go_at_call 114; refine (refnum2i s (j + 4) ((j : Int) + 4) _ (by omega) hs (by omega)).mono ?_; rintro e w' ⟨rfl, rfl⟩)
                | (go_at_call 140; refine (named_any (num2 s (j - 4)) _).mono ?_; rw [hsi]; rintro e w' ⟨rfl, rfl⟩)
                | (go_at_call 139; refine (refname_i s (j + 6 + k) ((j : Int) + 6 + (k : Int)) _ (by omega) hs (by omega)).mono ?_; rintro e w9 hrn; have HRN := Lib.hid hrn; clear hrn; rcases HRN.out.2 with ⟨nm2, i2, hR2, rfl⟩ | ⟨hR2, x, hx, rfl⟩))
              · have HR2 := Lib.hid hR2
                have HW9 := Lib.hid (And.intro (HRN.out.1.heap HW.out.1 (by simp)) (And.intro (HW.out.2.1.trans HRN.out.1 (by simp)) (HRN.out.1.heap HW.out.2.2 (by simp))))
                have hnl := nameP_len _ _ _ _ _ _ _ nm2 i2 (Nat.le_refl _) (by simp) (.inl rfl) (fun _ => rfl) hR2
                clear hR2 r1
                by_cases h9 : i2 = j + 6 + num2 s (j + 4)
                · have h9' : ((i2 : Int) != (j : Int) + 6 + ((num2 s (j + 4) : Nat) : Int)) = false := by simp; omega
                  have hnn := HN.out
                  rw [HDP.out, if_neg (by omega), HR2.out] at hnn
                  dsimp only at hnn
                  rw [if_pos h9] at hnn
                  have hcut : strN (cut s (j + 6) k) = s.extract (j + 6) (j + 6 + k) := strN_cut (by omega)
                  have HD := Lib.hid (And.intro hnn (show strN (cut s (j + 6) k ++ nm2) = s.extract (j + 6) (j + 6 + k) ++ strN nm2 by rw [← strN_append, hcut]))
                  have r3 : w9.cell? ⟨rb, 3, none⟩ = some (.string ⟨#[]⟩) := cell_of_heap HW9.out.1 rfl
                  have f3 : w9.frozen? ⟨rb, 3, none⟩ = false := free_of_heap HW9.out.1
                  have ha1 : ¬ 9223372036854775807 < k + (strN nm2).size := by rw [strN_size]; omega
                  have ha2 : ¬ 9223372036854775807 < (s.extract (j + 6) (j + 6 + k)).size + (strN nm2).size := by rw [strN_size]; simp; omega
                  have ha3 : ¬ 9223372036854775807 < j + 6 + k - (j + 6) + (strN nm2).size := by rw [strN_size]; omega
                  clear hnn hcut h9
                  go_upto_region 21 with fail
                  have hrb3 : (w9.setCell ⟨rb, 3, none⟩ (.string (s.extract (j + 6) (j + 6 + k) ++ strN nm2))).heap[rb]? = some (.cells #[.string (strN nm), .int .i64 (num2 s (j - 4) : Nat), .int .i64 (ttl : Int), .string (s.extract (j + 6) (j + 6 + k) ++ strN nm2)] 122 (0, 0)) := by rw [heap_setCell_self HW9.out.1]; rfl
                  have hbb3 := (heap_setCell_far (a := ⟨rb, 3, none⟩) hbr (.string (s.extract (j + 6) (j + 6 + k) ++ strN nm2))).trans HW9.out.2.2
                  have hkk3 : Keeps [] w (w9.setCell ⟨rb, 3, none⟩ (.string (s.extract (j + 6) (j + 6 + k) ++ strN nm2))) := HW9.out.2.1.setCell (fun h => absurd h (by have := HB.out.2.1.size; show ¬ rb < w.heap.size; omega)) _
                  have H3 := Lib.hid (And.intro hrb3 (And.intro hkk3 hbb3))
                  clear hrb3 hkk3 hbb3 r3 f3
                  revert H3
                  generalize w9.setCell ⟨rb, 3, none⟩ (.string (s.extract (j + 6) (j + 6 + k) ++ strN nm2)) = W3
                  intro H3
                  have q0 : W3.cell? ⟨rb, 0, none⟩ = some (.string (strN nm)) := cell_of_heap H3.out.1 rfl
                  have q1 : W3.cell? ⟨rb, 1, none⟩ = some (.int .i64 (num2 s (j - 4) : Nat)) := cell_of_heap H3.out.1 rfl
                  have q2 : W3.cell? ⟨rb, 2, none⟩ = some (.int .i64 (ttl : Int)) := cell_of_heap H3.out.1 rfl
                  have q3 : W3.cell? ⟨rb, 3, none⟩ = some (.string (s.extract (j + 6) (j + 6 + k) ++ strN nm2)) := cell_of_heap H3.out.1 rfl
                  obtain ⟨z0, y0, z1, y1, z2, y2, z3, y3, hz⟩ := store4 H3.out.2.2 (.string (strN nm)) (.int .i64 (num2 s (j - 4) : Nat)) (.int .i64 (ttl : Int)) (.string (s.extract (j + 6) (j + 6 + k) ++ strN nm2))
                  have g0 := cell_of_heap (o := 0) hz rfl
                  have g1 := cell_of_heap (o := 1) hz rfl
                  have g2 := cell_of_heap (o := 2) hz rfl
                  have g3 := cell_of_heap (o := 3) hz rfl
                  clear hz
                  go_wp2_with fail
                  refine bodyPost_ret (v := .tuple #[.agg #[.string (strN nm), .int .i64 (num2 s (j - 4) : Nat), .int .i64 (ttl : Int), .string (s.extract (j + 6) (j + 6 + k) ++ strN nm2)], .int .i64 ((j + 6 + num2 s (j + 4) : Nat) : Int), .int .i64 0]) ?_ rfl ⟨rec_end H3.out.2.1 (by omega), .inl ⟨⟨nm, num2 s (j - 4), (cut s (j + 6) k ++ nm2)⟩, j + 6 + num2 s (j + 4), HD.out.1, ttl, by rw [HD.out.2]⟩⟩
                  simp only [results, show Tryz.f116.results = #[ResultVar.cell 4 122, ResultVar.tmp 5, ResultVar.tmp 6] from rfl]
                  go_simp
                · have h9' : ((i2 : Int) != (j : Int) + 6 + ((num2 s (j + 4) : Nat) : Int)) = true := by simp; omega
                  have HQ := Lib.hid (show recP s i = none by rw [HN.out, HDP.out, if_neg (by omega), HR2.out]; dsimp only; rw [if_neg h9])
                  obtain ⟨z0, y0, z1, y1, z2, y2, z3, y3, hz⟩ := store4 HW9.out.2.2 (.string ⟨#[]⟩) (.int .i64 0) (.int .i64 0) (.string ⟨#[]⟩)
                  have g0 := cell_of_heap (o := 0) hz rfl
                  have g1 := cell_of_heap (o := 1) hz rfl
                  have g2 := cell_of_heap (o := 2) hz rfl
                  have g3 := cell_of_heap (o := 3) hz rfl
                  clear hz
                  go_wp2_with fail
                  refine bodyPost_ret (v := .tuple #[.agg #[.string ⟨#[]⟩, .int .i64 0, .int .i64 0, .string ⟨#[]⟩], .int .i64 0, .int .i64 2]) ?_ rfl ⟨rec_end HW9.out.2.1 (by omega), .inr ⟨HQ.out, 2, by decide, rfl⟩⟩
                  simp only [results, show Tryz.f116.results = #[ResultVar.cell 4 122, ResultVar.tmp 5, ResultVar.tmp 6] from rfl]
                  go_simp
              · have HQ := Lib.hid (show recP s i = none by rw [HN.out, HDP.out, if_neg (by omega), hR2])
                have hx' : ((x : Int) != 0) = true := by simpa using hx
                have HW9 := Lib.hid (And.intro (HRN.out.1.heap HW.out.1 (by simp)) (And.intro (HW.out.2.1.trans HRN.out.1 (by simp)) (HRN.out.1.heap HW.out.2.2 (by simp))))
                have HX := Lib.hid hx
                clear hx hR2 r1
                obtain ⟨z0, y0, z1, y1, z2, y2, z3, y3, hz⟩ := store4 HW9.out.2.2 (.string ⟨#[]⟩) (.int .i64 0) (.int .i64 0) (.string ⟨#[]⟩)
                have g0 := cell_of_heap (o := 0) hz rfl
                have g1 := cell_of_heap (o := 1) hz rfl
                have g2 := cell_of_heap (o := 2) hz rfl
                have g3 := cell_of_heap (o := 3) hz rfl
                clear hz
                go_wp2_with fail
                refine bodyPost_ret (v := .tuple #[.agg #[.string ⟨#[]⟩, .int .i64 0, .int .i64 0, .string ⟨#[]⟩], .int .i64 0, .int .i64 (x : Int)]) ?_ rfl ⟨rec_end HW9.out.2.1 (by omega), .inr ⟨HQ.out, x, HX.out, rfl⟩⟩
                simp only [results, show Tryz.f116.results = #[ResultVar.cell 4 122, ResultVar.tmp 5, ResultVar.tmp 6] from rfl]
                go_simp
  · go_upto_region 2 with fail
    have hbx : (w1.alloc (.cells #[.string ⟨#[]⟩, .int .i64 0] 120)).heap[bb]? = some (.cells #[.string ⟨#[]⟩, .int .i64 0, .int .i64 0, .string ⟨#[]⟩] 122 (0, 0)) := (heap_alloc_far hbl).trans hb0
    have hkx := hk1.alloc (.cells #[.string ⟨#[]⟩, .int .i64 0] 120)
    have hqx : (w1.alloc (.cells #[.string ⟨#[]⟩, .int .i64 0] 120)).heap[w1.heap.size]? = some (.cells #[.string ⟨#[]⟩, .int .i64 0] 120 (0, 0)) := heap_alloc_self
    have HB := Lib.hid (And.intro hbx (And.intro hkx (And.intro hR hqx)))
    clear hbx hkx hqx hR hb0 hk1
    revert HB
    generalize w1.alloc (.cells #[.string ⟨#[]⟩, .int .i64 0] 120) = W
    intro HB
    generalize hqb : w1.heap.size = qb at *
    have HQ := Lib.hid (show recP s i = none by unfold recP; rw [HB.out.2.2.1])
    have hx' : ((x : Int) != 0) = true := by simpa using hx
    have HX := Lib.hid hx
    clear hx
    obtain ⟨z0, y0, z1, y1, z2, y2, z3, y3, hz⟩ := store4 HB.out.1 (.string ⟨#[]⟩) (.int .i64 0) (.int .i64 0) (.string ⟨#[]⟩)
    have g0 := cell_of_heap (o := 0) hz rfl
    have g1 := cell_of_heap (o := 1) hz rfl
    have g2 := cell_of_heap (o := 2) hz rfl
    have g3 := cell_of_heap (o := 3) hz rfl
    clear hz
    go_wp2_with fail
    refine bodyPost_ret (v := .tuple #[.agg #[.string ⟨#[]⟩, .int .i64 0, .int .i64 0, .string ⟨#[]⟩], .int .i64 0, .int .i64 (x : Int)]) ?_ rfl ⟨rec_end HB.out.2.1 (by omega), .inr ⟨HQ.out, x, HX.out, rfl⟩⟩
    simp only [results, show Tryz.f116.results = #[ResultVar.cell 4 122, ResultVar.tmp 5, ResultVar.tmp 6] from rfl]
    go_simp
end Go.Proofs.Sess
namespace Go.Proofs.Sess
open Go Go.RowKit

theorem refnumI (s : ByteArray) (x : Int) (w : World) (hs : s.size < 1000000) (h0 : 0 ≤ x) (h : x + 2 ≤ (s.size : Int)) :
    Calls Tryz.prog 114 #[.string s, .int .i64 x, .int .i64 2] w fun e w' => e = .returned (.int .i64 (num2 s x.toNat : Nat)) ∧ w = w' :=
  refnum2i s x.toNat x w (by omega) hs (by omega)
/-- The world of the reference's Decode. -/
structure DecB (w W : World) (bb db : Nat) (x y : Int) (qs : List (ByteArray × Nat)) (rs : List RecW) : Prop where
  k : Keeps [] w W
  b : W.heap[bb]? = some (.cells #[.int .i64 0, .int .i64 0, .slice none 0 0, .slice none 0 0] 115 (0, 0))
  d : ∃ qv rv, W.heap[db]? = some (.cells #[.int .i64 x, .int .i64 y, qv, rv] 115 (0, 0)) ∧ W.ownsRow w.heap.size 120 2 qv qs.length (qV qs) ∧ W.ownsRow w.heap.size 122 4 rv rs.length (rV rs)
  ne : bb ≠ db
  lb : w.heap.size ≤ bb
  ld : w.heap.size ≤ db
theorem DecB.calm {w W W' : World} {bb db : Nat} {x y : Int} {qs : List (ByteArray × Nat)} {rs : List RecW} (h : DecB w W bb db x y qs rs) (hk : Keeps [] W W') : DecB w W' bb db x y qs rs := by
  obtain ⟨qv, rv, h1, h2, h3⟩ := h.d
  exact ⟨h.k.trans hk (by simp), hk.heap h.b (by simp), ⟨qv, rv, hk.heap h1 (by simp), hk.own h2 (by simp), hk.own h3 (by simp)⟩, h.ne, h.lb, h.ld⟩
/-- A question is appended. -/
theorem DecB.putQ {w W W1 W2 : World} {bb db : Nat} {x y : Int} {qs : List (ByteArray × Nat)} {rs : List RecW} {qv rv : Value} {q : ByteArray × Nat} {g cap : Nat} (h : DecB w W bb db x y qs rs)
    (hd : W.heap[db]? = some (.cells #[.int .i64 x, .int .i64 y, qv, rv] 115 (0, 0)))
    (hk : Keeps [] W W1) (hown : W2.ownsRow w.heap.size 120 2 (.slice (some ⟨g, 0, none⟩) (qs.length + 1) cap) (qs.length + 1) (qV qs ++ [.string q.1, .int .i64 (q.2 : Int)])) (hgrow : W1.grownBy W2 qv.ownBlock) :
    DecB w (W2.setCell ⟨db, 2, none⟩ (.slice (some ⟨g, 0, none⟩) (qs.length + 1) cap)) bb db x y (qs ++ [q]) rs := by
  obtain ⟨qv', rv', h1, h2, h3⟩ := h.d
  rw [hd] at h1
  simp at h1
  obtain ⟨rfl, rfl⟩ := h1
  have hne : ∀ k o, W.heap[k]? = some o → (∀ cur f, o = .cells cur 120 f → False) → k ∉ qv.ownBlock.toList := fun k o hk' hno hm => by
    obtain ⟨cur, hc⟩ := own_type_at h2 (g := k) (by simpa using hm)
    rw [hc] at hk'
    simp at hk'
    exact hno _ _ hk'.symm
  have hk2 : Keeps qv.ownBlock.toList W W2 := (hk.mono (by simp)).grown hgrow (fun k hk' _ => by simp [hk'])
  have hd2 := hk2.heap hd (hne _ _ hd (by simp))
  have hb2 := hk2.heap h.b (hne _ _ h.b (by simp))
  have kS : Keeps [db] W2 (W2.setCell ⟨db, 2, none⟩ (.slice (some ⟨g, 0, none⟩) (qs.length + 1) cap)) := (Keeps.refl _ _).setCell (by simp) _
  have hg2 : ∃ cur, W2.heap[g]? = some (.cells cur 120 (0, 0)) := own_type_at hown rfl
  obtain ⟨cur, hg2⟩ := hg2
  have h32 : W2.ownsRow w.heap.size 122 4 rv rs.length (rV rs) := hk2.own h3 (fun k hk' => by
    obtain ⟨cu, hc⟩ := own_type_at h3 hk'
    exact hne _ _ hc (by simp))
  refine ⟨?_, kS.heap hb2 (by simpa using h.ne), ⟨_, _, by rw [heap_setCell_self hd2]; rfl, ?_, kS.own h32 (fun k hk' => ?_)⟩, h.ne, h.lb, h.ld⟩
  · refine (h.k.trans hk2 (fun x hx hl => ?_)).trans kS (fun x hx hl => ?_)
    · have := (h2.lt x (by simpa using hx)).1; omega
    · have := h.ld; simp at hx; omega
  · rw [qV_append, qV_one, List.length_append]
    exact kS.own hown (fun k hk' => by simp [Value.ownBlock] at hk'; subst hk'; simpa using cells_ne hg2 hd2 (by decide))
  · obtain ⟨cu, hc⟩ := own_type_at h32 hk'
    simpa using cells_ne hc hd2 (by decide)
/-- A record is appended. -/
theorem DecB.putR {w W W1 W2 : World} {bb db : Nat} {x y : Int} {qs : List (ByteArray × Nat)} {rs : List RecW} {qv rv : Value} {q : RecW} {g cap : Nat} (h : DecB w W bb db x y qs rs)
    (hd : W.heap[db]? = some (.cells #[.int .i64 x, .int .i64 y, qv, rv] 115 (0, 0)))
    (hk : Keeps [] W W1) (hown : W2.ownsRow w.heap.size 122 4 (.slice (some ⟨g, 0, none⟩) (rs.length + 1) cap) (rs.length + 1) (rV rs ++ [.string q.name, .int .i64 (q.type : Int), .int .i64 (q.ttl : Int), .string q.data])) (hgrow : W1.grownBy W2 rv.ownBlock) :
    DecB w (W2.setCell ⟨db, 3, none⟩ (.slice (some ⟨g, 0, none⟩) (rs.length + 1) cap)) bb db x y qs (rs ++ [q]) := by
  obtain ⟨qv', rv', h1, h3, h2⟩ := h.d
  rw [hd] at h1
  simp at h1
  obtain ⟨rfl, rfl⟩ := h1
  have hne : ∀ k o, W.heap[k]? = some o → (∀ cur f, o = .cells cur 122 f → False) → k ∉ rv.ownBlock.toList := fun k o hk' hno hm => by
    obtain ⟨cur, hc⟩ := own_type_at h2 (g := k) (by simpa using hm)
    rw [hc] at hk'
    simp at hk'
    exact hno _ _ hk'.symm
  have hk2 : Keeps rv.ownBlock.toList W W2 := (hk.mono (by simp)).grown hgrow (fun k hk' _ => by simp [hk'])
  have hd2 := hk2.heap hd (hne _ _ hd (by simp))
  have hb2 := hk2.heap h.b (hne _ _ h.b (by simp))
  have kS : Keeps [db] W2 (W2.setCell ⟨db, 3, none⟩ (.slice (some ⟨g, 0, none⟩) (rs.length + 1) cap)) := (Keeps.refl _ _).setCell (by simp) _
  have hg2 : ∃ cur, W2.heap[g]? = some (.cells cur 122 (0, 0)) := own_type_at hown rfl
  obtain ⟨cur, hg2⟩ := hg2
  have h32 : W2.ownsRow w.heap.size 120 2 qv qs.length (qV qs) := hk2.own h3 (fun k hk' => by
    obtain ⟨cu, hc⟩ := own_type_at h3 hk'
    exact hne _ _ hc (by simp))
  refine ⟨?_, kS.heap hb2 (by simpa using h.ne), ⟨_, _, by rw [heap_setCell_self hd2]; rfl, kS.own h32 (fun k hk' => ?_), ?_⟩, h.ne, h.lb, h.ld⟩
  · refine (h.k.trans hk2 (fun x hx hl => ?_)).trans kS (fun x hx hl => ?_)
    · have := (h2.lt x (by simpa using hx)).1; omega
    · have := h.ld; simp at hx; omega
  · obtain ⟨cu, hc⟩ := own_type_at h32 hk'
    simpa using cells_ne hc hd2 (by decide)
  · rw [rV_append, rV_one, List.length_append]
    exact kS.own hown (fun k hk' => by simp [Value.ownBlock] at hk'; subst hk'; simpa using cells_ne hg2 hd2 (by decide))

theorem decodeP_of_cont {s : ByteArray} {N k : Nat} {qs : List (ByteArray × Nat)} {i : Nat} (h : QSt s N k qs i 0) (hk : k < N) (hq : questP s i = none) : decodeP s = none := by
  have := h.next (v := ⟨#[]⟩) (t := 0) (i3 := 0) (e3 := 1) hk (.inr ⟨by decide, hq⟩)
  rcases this with h | h
  · exact absurd h.1 (by decide)
  · exact h.2
theorem decodeP_of_contR {s : ByteArray} {M k : Nat} {qs : List (ByteArray × Nat)} {rs : List RecW} {i : Nat} (h : RSt s M k qs rs i 0) (hk : k < M) (hq : recP s i = none) : decodeP s = none := by
  have := h.next (r := ⟨⟨#[]⟩, 0, 0, ⟨#[]⟩⟩) (i3 := 0) (e3 := 1) hk (.inr ⟨by decide, hq⟩)
  rcases this with h | h
  · exact absurd h.1 (by decide)
  · exact h.2
theorem recP_le {s : ByteArray} {i j : Nat} {x : RecP} (h : recP s i = some (x, j)) : j ≤ s.size ∧ x.name.length ≤ 253 ∧ x.type < 65536 ∧ x.data.length ≤ 70000 := by
  unfold recP at h
  split at h
  · cases h
  · rename_i nm i2 hq
    have hl := questP_le hq
    split at h
    · cases h
    · dsimp only at h
      split at h
      · cases h
      · split at h
        · cases h
        · rename_i d hd
          have := dataP_len hd
          have h1 := num2_lt s (i2 + 4)
          have h2 := num2_lt s (i2 - 4)
          simp only [Option.some.injEq, Prod.mk.injEq] at h
          obtain ⟨rfl, rfl⟩ := h
          exact ⟨by omega, hl.2.2, h2, by dsimp only; omega⟩

set_option maxRecDepth 100000 in
set_option maxHeartbeats 8000000 in
theorem refdec (w : World) (s : ByteArray) (hs : s.size < 1000000) : Calls Tryz.prog 92 #[.string s] w (Decoded w s) := by
  go_enter Tryz.func92, Tryz.ntmps92
  go_upto_region 1 with fail
  have hb0 : (w.alloc (.cells #[.int .i64 0, .int .i64 0, .slice none 0 0, .slice none 0 0] 115)).heap[w.heap.size]? = some (.cells #[.int .i64 0, .int .i64 0, .slice none 0 0, .slice none 0 0] 115 (0, 0)) := heap_alloc_self
  have hk0 : Keeps [] w (w.alloc (.cells #[.int .i64 0, .int .i64 0, .slice none 0 0, .slice none 0 0] 115)) := (Keeps.refl _ _).alloc _
  have H0 := Lib.hid (And.intro hb0 hk0)
  clear hb0 hk0
  revert H0
  generalize w.alloc (.cells #[.int .i64 0, .int .i64 0, .slice none 0 0, .slice none 0 0] 115) = W0
  intro H0
  generalize hbb : w.heap.size = bb at *
  by_cases h12 : (s.size : Int) < 12
  · have HQ := Lib.hid (show decodeP s = none by unfold decodeP; rw [if_pos (by omega)])
    obtain ⟨z0, y0, z1, y1, z2, y2, z3, y3, hz⟩ := store4 H0.out.1 (.int .i64 0) (.int .i64 0) (.slice none 0 0) (.slice none 0 0)
    have g0 := cell_of_heap (o := 0) hz rfl
    have g1 := cell_of_heap (o := 1) hz rfl
    have g2 := cell_of_heap (o := 2) hz rfl
    have g3 := cell_of_heap (o := 3) hz rfl
    clear hz
    go_wp2_with fail
    refine bodyPost_ret (v := .tuple #[.agg #[.int .i64 0, .int .i64 0, .slice none 0 0, .slice none 0 0], .int .i64 1]) ?_ rfl ⟨rec_end H0.out.2 (by omega), .inl ⟨HQ.out, 1, by decide, rfl⟩⟩
    simp only [results, show Tryz.f92.results = #[ResultVar.cell 2 115, ResultVar.tmp 3] from rfl]
    go_simp
  · have h12' : 12 ≤ s.size := by omega
    go_upto_region 3 with fail
    go_cut [4] (fun v wx => ∃ (db : Nat) (x y : Int), v = .pointer (some ⟨db, 0, none⟩) ∧ DecB w wx bb db x y [] [])
    case first =>
      go_upto_region 4 with (go_at_call 114; refine (refnumI s _ _ hs (by omega) (by omega)).mono ?_; rintro e w' ⟨rfl, rfl⟩)
      go_meet
      have hl := lt_of_heap H0.out.1
      exact ⟨W0.heap.size, _, _, rfl, H0.out.2.alloc _, (heap_alloc_far hl).trans H0.out.1, ⟨_, _, heap_alloc_self, World.ownsRow_nil _ _ _ _, World.ownsRow_nil _ _ _ _⟩, by omega, by omega, by omega⟩
    case rest =>
      obtain ⟨db, x, y, rfl, hD⟩ := hcut
      have HD := Lib.hid hD
      clear hD H0
      have l4 := num2_lt s 4
      have l6 := num2_lt s 6
      have l8 := num2_lt s 8
      have l10 := num2_lt s 10
      by_cases hbad : 8 < num2 s 4 ∨ 32 < num2 s 6 + num2 s 8 + num2 s 10
      · have HQ := Lib.hid (show decodeP s = none by unfold decodeP; rw [if_neg (by omega), if_pos hbad])
        obtain ⟨z0, y0, z1, y1, z2, y2, z3, y3, hz⟩ := store4 HD.out.b (.int .i64 0) (.int .i64 0) (.slice none 0 0) (.slice none 0 0)
        have g0 := cell_of_heap (o := 0) hz rfl
        have g1 := cell_of_heap (o := 1) hz rfl
        have g2 := cell_of_heap (o := 2) hz rfl
        have g3 := cell_of_heap (o := 3) hz rfl
        clear hz
        by_cases hb1 : (8 : Int) < ((num2 s 4 : Nat) : Int)
        · clear hbad
          go_wp2_with (go_at_call 114; refine (refnumI s _ _ hs (by omega) (by omega)).mono ?_; rintro e w' ⟨rfl, rfl⟩)
          refine bodyPost_ret (v := .tuple #[.agg #[.int .i64 0, .int .i64 0, .slice none 0 0, .slice none 0 0], .int .i64 3]) ?_ rfl ⟨rec_end HD.out.k (by omega), .inl ⟨HQ.out, 3, by decide, rfl⟩⟩
          simp only [results, show Tryz.f92.results = #[ResultVar.cell 2 115, ResultVar.tmp 3] from rfl]
          go_simp
        · have hb2 : (32 : Int) < ((num2 s 6 : Nat) : Int) + ((num2 s 8 : Nat) : Int) + ((num2 s 10 : Nat) : Int) := by omega
          clear hbad
          go_wp2_with (go_at_call 114; refine (refnumI s _ _ hs (by omega) (by omega)).mono ?_; rintro e w' ⟨rfl, rfl⟩)
          refine bodyPost_ret (v := .tuple #[.agg #[.int .i64 0, .int .i64 0, .slice none 0 0, .slice none 0 0], .int .i64 3]) ?_ rfl ⟨rec_end HD.out.k (by omega), .inl ⟨HQ.out, 3, by decide, rfl⟩⟩
          simp only [results, show Tryz.f92.results = #[ResultVar.cell 2 115, ResultVar.tmp 3] from rfl]
          go_simp
      · have hb1 : ¬ (8 : Int) < ((num2 s 4 : Nat) : Int) := by omega
        have hb2 : ¬ (32 : Int) < ((num2 s 6 : Nat) : Int) + ((num2 s 8 : Nat) : Int) + ((num2 s 10 : Nat) : Int) := by omega
        have hq0 : QSt s (num2 s 4) 0 [] 12 0 := .inl ⟨rfl, h12', [], by rw [decodeP_cont h12' hbad]; rfl, rfl⟩
        have HQ0 := Lib.hid hq0
        obtain ⟨M, hM⟩ : ∃ M : Nat, M = num2 s 6 + num2 s 8 + num2 s 10 := ⟨_, rfl⟩
        have hMi : ((num2 s 6 : Nat) : Int) + ((num2 s 8 : Nat) : Int) + ((num2 s 10 : Nat) : Int) = (M : Int) := by omega
        have hM32 : M ≤ 32 := by omega
        have hN8 : num2 s 4 ≤ 8 := by omega
        have HM := Lib.hid (And.intro hM hMi)
        clear hbad hq0 hM hMi
        obtain ⟨q0, hq0, hqz0, hqz1, hqz2⟩ := info_parts info120
        obtain ⟨r0, hr0, hrz0, hrz1, hrz2⟩ := info_parts info122
        go_upto_block 0 with (go_at_call 114; refine (refnumI s _ _ hs (by omega) (by omega)).mono ?_; rintro e w' ⟨rfl, rfl⟩)
        have hMi := HM.out.2
        rw [hMi]
        clear hMi hb1 hb2 l6 l8 l10
        generalize hN : num2 s 4 = n at *
        have HN := Lib.hid hN
        clear hN
        go_cut [7] (fun a wx => ∃ (qs : List (ByteArray × Nat)) (i : Nat), a = .int .i64 (i : Int) ∧ DecB w wx bb db x y qs [] ∧ RSt s M 0 qs [] i 0)
        case first =>
          go_wp2_with fail
          go_loopw [7, 8] (fun a t wr => ∃ (k : Nat) (qs : List (ByteArray × Nat)) (i : Nat), a = .int .i64 (i : Int) ∧ t = .int .i64 (k : Int) ∧ DecB w wr bb db x y qs [] ∧ QSt s n k qs i 0 ∧ qs.length = k ∧ k ≤ n) (fun _ t _ => n - (intOf t).toNat)
          case atStart => exact ⟨0, [], 12, rfl, rfl, HD.out, HQ0.out, rfl, Nat.zero_le _⟩
          case round =>
            obtain ⟨k, qs, i, rfl, rfl, hd, hq, hl, hk⟩ := hrel
            have HX := Lib.hid (And.intro hd (And.intro hq hl))
            clear hd hq hl
            by_cases hlt : k < n
            · have hlt' : (k : Int) < (n : Int) := by omega
              have hile : i ≤ s.size := by
                rcases HX.out.2.1 with h | h
                · exact h.2.1
                · exact absurd rfl h.1
              have HLT := Lib.hid hlt
              clear hlt
              go_upto_region 13 with (go_at_call 115; refine (refquest s i wr hs hile).mono ?_; rintro e w1 hrq; have HRQ := Lib.hid hrq; clear hrq; rcases HRQ.out.2 with ⟨nm, j, hR, rfl⟩ | ⟨hR, xx, hx, rfl⟩)
              · have hj := questP_le hR
                have hbx : (w1.alloc (.cells #[.string (strN nm), .int .i64 (num2 s (j - 4) : Nat)] 120)).heap[w1.heap.size]? = some (.cells #[.string (strN nm), .int .i64 (num2 s (j - 4) : Nat)] 120 (0, 0)) := heap_alloc_self
                have hdx := HX.out.1.calm (HRQ.out.1.alloc (.cells #[.string (strN nm), .int .i64 (num2 s (j - 4) : Nat)] 120))
                have hns := HX.out.2.1.next (v := strN nm) (t := num2 s (j - 4)) (i3 := j) (e3 := 0) HLT.out (.inl ⟨rfl, hj.2.1, nm, hR, rfl⟩)
                have HB := Lib.hid (And.intro hbx (And.intro hdx hns))
                clear hbx hdx hns hR
                revert HB
                generalize w1.alloc (.cells #[.string (strN nm), .int .i64 (num2 s (j - 4) : Nat)] 120) = W1
                intro HB
                generalize w1.heap.size = qb at *
                have cq0 : W1.cell? ⟨qb, 0, none⟩ = some (.string (strN nm)) := cell_of_heap HB.out.1 rfl
                have cq1 : W1.cell? ⟨qb, 1, none⟩ = some (.int .i64 (num2 s (j - 4) : Nat)) := cell_of_heap HB.out.1 rfl
                obtain ⟨qv, rv, hdb4, hown4, hownR⟩ := HB.out.2.1.d
                have cdb : W1.cell? ⟨db, 2, none⟩ = some qv := cell_of_heap hdb4 rfl
                have fdb : W1.frozen? ⟨db, 2, none⟩ = false := free_of_heap hdb4
                have hdbn := lt_of_heap hdb4
                have hql := HX.out.2.2
                have hszW := HB.out.2.1.k.size
                have HQ := Lib.hid (And.intro HB.out.2.1 (And.intro hdb4 hown4))
                clear hdb4 hown4 hownR
                go_wp2_with (refine wpList_append_lies _ (by rfl) _ _ _ (by rfl) w.heap.size 120 q0 _ 2 24 Tryz.underlying112 hq0 hqz0 hqz1 hqz2 rfl (by omega) qv qs.length (qV qs) (by rfl) (HQ.out.2.2.alloc _) ⟨W1.heap.size, 0, none⟩ 1 1 [.string (strN nm), .int .i64 (num2 s (j - 4) : Nat)] (by rfl) (by rfl) (World.news_of_block heap_alloc_self) (by simp [Value.oneCell']) (by omega) (by unfold maxLen; omega) (by omega) (by simp; omega) (W1.heap.size + 1) (by simp) ?_
                             intro gg cap w4 hown5 hgrow5 hat5 hlt5
                             have hpt := HQ.out.1.putQ (q := (strN nm, num2 s (j - 4))) HQ.out.2.1 ((Keeps.refl [] W1).alloc _) hown5 hgrow5
                             have HPT := Lib.hid hpt
                             have hb5 := (hgrow5.block db (by simp; omega) (own_ne HQ.out.2.2 HQ.out.2.1 (by decide))).trans ((heap_alloc_far hdbn).trans HQ.out.2.1)
                             have cdb4 : w4.cell? ⟨db, 2, none⟩ = some qv := cell_of_heap hb5 rfl
                             have fdb4 : w4.frozen? ⟨db, 2, none⟩ = false := free_of_heap hb5
                             clear hown5 hgrow5 hat5 hlt5 hpt hb5)
                go_roundw
                case rel =>
                  have g1 := HPT.out
                  rw [hql] at g1
                  exact ⟨k + 1, qs ++ [(strN nm, num2 s (j - 4))], j, rfl, by go_num, g1, HB.out.2.2, by simp [hql], HLT.out⟩
                case measure => simp [intOf]; omega
              · have HQ := Lib.hid (decodeP_of_cont HX.out.2.1 HLT.out hR)
                have hx' : ((xx : Int) != 0) = true := by simpa using hx
                have hdx := HX.out.1.calm (HRQ.out.1.alloc (.cells #[.string ⟨#[]⟩, .int .i64 0] 120))
                have HXX := Lib.hid (And.intro hx hdx)
                clear hx hdx hR
                revert HXX
                generalize w1.alloc (.cells #[.string ⟨#[]⟩, .int .i64 0] 120) = W1
                intro HXX
                generalize w1.heap.size = qb at *
                obtain ⟨z0, y0, z1, y1, z2, y2, z3, y3, hz⟩ := store4 HXX.out.2.b (.int .i64 0) (.int .i64 0) (.slice none 0 0) (.slice none 0 0)
                have g0 := cell_of_heap (o := 0) hz rfl
                have g1 := cell_of_heap (o := 1) hz rfl
                have g2 := cell_of_heap (o := 2) hz rfl
                have g3 := cell_of_heap (o := 3) hz rfl
                clear hz
                go_wp2_with fail
                refine bodyPost_ret (v := .tuple #[.agg #[.int .i64 0, .int .i64 0, .slice none 0 0, .slice none 0 0], .int .i64 (xx : Int)]) ?_ rfl ⟨rec_end HXX.out.2.k (by omega), .inl ⟨HQ.out, xx, HXX.out.1, rfl⟩⟩
                simp only [results, show Tryz.f92.results = #[ResultVar.cell 2 115, ResultVar.tmp 3] from rfl]
                go_simp
            · have hlt' : ¬ (k : Int) < (n : Int) := by omega
              go_wp2_with fail
              go_meet
              exact ⟨qs, i, rfl, HX.out.1, RSt.begin HX.out.2.1 (fun _ => by omega) (fun _ => HM.out.1)⟩
        case rest =>
          obtain ⟨qs, i1, rfl, hd1, hr1⟩ := hcut
          have HD1 := Lib.hid (And.intro hd1 hr1)
          clear hd1 hr1 HD
          go_upto_block 2 with fail
          go_cut [7] (fun a wx => ∃ (rs : List RecW) (i : Nat), a = .int .i64 (i : Int) ∧ DecB w wx bb db x y qs rs ∧ FSt s qs rs i 0)
          case first =>
            go_wp2_with fail
            go_loopw [7, 12] (fun a t wr => ∃ (k : Nat) (rs : List RecW) (i : Nat), a = .int .i64 (i : Int) ∧ t = .int .i64 (k : Int) ∧ DecB w wr bb db x y qs rs ∧ RSt s M k qs rs i 0 ∧ rs.length = k ∧ k ≤ M) (fun _ t _ => M - (intOf t).toNat)
            case atStart => exact ⟨0, [], i1, rfl, rfl, HD1.out.1, HD1.out.2, rfl, Nat.zero_le _⟩
            case round =>
              obtain ⟨k, rs, i, rfl, rfl, hd, hq, hl, hk⟩ := hrel
              have HX := Lib.hid (And.intro hd (And.intro hq hl))
              clear hd hq hl
              by_cases hlt : k < M
              · have hlt' : (k : Int) < (M : Int) := by omega
                have hile : i ≤ s.size := by
                  rcases HX.out.2.1 with h | h
                  · exact h.2.1
                  · exact absurd rfl h.1
                have HLT := Lib.hid hlt
                clear hlt
                go_upto_region 21 with (go_at_call 116; refine (refrec s i wr hs hile).mono ?_; rintro e w1 hrq; have HRQ := Lib.hid hrq; clear hrq; rcases HRQ.out.2 with ⟨x2, j, hR, ttl, rfl⟩ | ⟨hR, xx, hx, rfl⟩)
                · have hj := recP_le hR
                  have hbx : (w1.alloc (.cells #[.string (strN x2.name), .int .i64 (x2.type : Int), .int .i64 (ttl : Int), .string (strN x2.data)] 122)).heap[w1.heap.size]? = some (.cells #[.string (strN x2.name), .int .i64 (x2.type : Int), .int .i64 (ttl : Int), .string (strN x2.data)] 122 (0, 0)) := heap_alloc_self
                  have hdx := HX.out.1.calm (HRQ.out.1.alloc (.cells #[.string (strN x2.name), .int .i64 (x2.type : Int), .int .i64 (ttl : Int), .string (strN x2.data)] 122))
                  have hns := HX.out.2.1.next (r := ⟨strN x2.name, x2.type, ttl, strN x2.data⟩) (i3 := j) (e3 := 0) HLT.out (.inl ⟨rfl, hj.1, x2, hR, ⟨rfl, rfl, rfl⟩, by show (strN x2.name).size ≤ 253; rw [strN_size]; exact hj.2.1, hj.2.2.1, by show (strN x2.data).size ≤ 100000; rw [strN_size]; omega⟩)
                  have HB := Lib.hid (And.intro hbx (And.intro hdx hns))
                  clear hbx hdx hns hR
                  revert HB
                  generalize w1.alloc (.cells #[.string (strN x2.name), .int .i64 (x2.type : Int), .int .i64 (ttl : Int), .string (strN x2.data)] 122) = W1
                  intro HB
                  generalize w1.heap.size = qb at *
                  have cq0 : W1.cell? ⟨qb, 0, none⟩ = some (.string (strN x2.name)) := cell_of_heap HB.out.1 rfl
                  have cq1 : W1.cell? ⟨qb, 1, none⟩ = some (.int .i64 (x2.type : Int)) := cell_of_heap HB.out.1 rfl
                  have cq2 : W1.cell? ⟨qb, 2, none⟩ = some (.int .i64 (ttl : Int)) := cell_of_heap HB.out.1 rfl
                  have cq3 : W1.cell? ⟨qb, 3, none⟩ = some (.string (strN x2.data)) := cell_of_heap HB.out.1 rfl
                  obtain ⟨qv, rv, hdb4, hownQ, hown4⟩ := HB.out.2.1.d
                  have cdb : W1.cell? ⟨db, 3, none⟩ = some rv := cell_of_heap hdb4 rfl
                  have fdb : W1.frozen? ⟨db, 3, none⟩ = false := free_of_heap hdb4
                  have hdbn := lt_of_heap hdb4
                  have hql := HX.out.2.2
                  have hszW := HB.out.2.1.k.size
                  have HQ := Lib.hid (And.intro HB.out.2.1 (And.intro hdb4 hown4))
                  clear hdb4 hown4 hownQ
                  go_wp2_with (refine wpList_append_lies _ (by rfl) _ _ _ (by rfl) w.heap.size 122 r0 _ 4 48 Tryz.underlying113 hr0 hrz0 hrz1 hrz2 rfl (by omega) rv rs.length (rV rs) (by rfl) (HQ.out.2.2.alloc _) ⟨W1.heap.size, 0, none⟩ 1 1 [.string (strN x2.name), .int .i64 (x2.type : Int), .int .i64 (ttl : Int), .string (strN x2.data)] (by rfl) (by rfl) (World.news_of_block heap_alloc_self) (by simp [Value.oneCell']) (by omega) (by unfold maxLen; omega) (by omega) (by simp; omega) (W1.heap.size + 1) (by simp) ?_
                               intro gg cap w4 hown5 hgrow5 hat5 hlt5
                               have hpt := HQ.out.1.putR (q := ⟨strN x2.name, x2.type, ttl, strN x2.data⟩) HQ.out.2.1 ((Keeps.refl [] W1).alloc _) hown5 hgrow5
                               have HPT := Lib.hid hpt
                               have hb5 := (hgrow5.block db (by simp; omega) (own_ne HQ.out.2.2 HQ.out.2.1 (by decide))).trans ((heap_alloc_far hdbn).trans HQ.out.2.1)
                               have cdb4 : w4.cell? ⟨db, 3, none⟩ = some rv := cell_of_heap hb5 rfl
                               have fdb4 : w4.frozen? ⟨db, 3, none⟩ = false := free_of_heap hb5
                               clear hown5 hgrow5 hat5 hlt5 hpt hb5)
                  go_roundw
                  case rel =>
                    have g1 := HPT.out
                    rw [hql] at g1
                    exact ⟨k + 1, rs ++ [⟨strN x2.name, x2.type, ttl, strN x2.data⟩], j, rfl, by go_num, g1, HB.out.2.2, by simp [hql], HLT.out⟩
                  case measure => simp [intOf]; omega
                · have HQ := Lib.hid (decodeP_of_contR HX.out.2.1 HLT.out hR)
                  have hx' : ((xx : Int) != 0) = true := by simpa using hx
                  have hdx := HX.out.1.calm (HRQ.out.1.alloc (.cells #[.string ⟨#[]⟩, .int .i64 0, .int .i64 0, .string ⟨#[]⟩] 122))
                  have HXX := Lib.hid (And.intro hx hdx)
                  clear hx hdx hR
                  revert HXX
                  generalize w1.alloc (.cells #[.string ⟨#[]⟩, .int .i64 0, .int .i64 0, .string ⟨#[]⟩] 122) = W1
                  intro HXX
                  generalize w1.heap.size = qb at *
                  obtain ⟨z0, y0, z1, y1, z2, y2, z3, y3, hz⟩ := store4 HXX.out.2.b (.int .i64 0) (.int .i64 0) (.slice none 0 0) (.slice none 0 0)
                  have g0 := cell_of_heap (o := 0) hz rfl
                  have g1 := cell_of_heap (o := 1) hz rfl
                  have g2 := cell_of_heap (o := 2) hz rfl
                  have g3 := cell_of_heap (o := 3) hz rfl
                  clear hz
                  go_wp2_with fail
                  refine bodyPost_ret (v := .tuple #[.agg #[.int .i64 0, .int .i64 0, .slice none 0 0, .slice none 0 0], .int .i64 (xx : Int)]) ?_ rfl ⟨rec_end HXX.out.2.k (by omega), .inl ⟨HQ.out, xx, HXX.out.1, rfl⟩⟩
                  simp only [results, show Tryz.f92.results = #[ResultVar.cell 2 115, ResultVar.tmp 3] from rfl]
                  go_simp
              · have hlt' : ¬ (k : Int) < (M : Int) := by omega
                go_wp2_with fail
                go_meet
                exact ⟨rs, i, rfl, HX.out.1, FSt.of HX.out.2.1 (fun _ => by omega)⟩
          case rest =>
            obtain ⟨rs, i9, rfl, hd9, hf9⟩ := hcut
            have hf : i9 ≤ s.size ∧ (i9 = s.size → DecOut s qs rs) ∧ (i9 ≠ s.size → decodeP s = none) := by
              rcases hf9 with h | h
              · exact h.2
              · exact absurd rfl h.1
            have HF := Lib.hid (And.intro hd9 hf)
            have hi9 := hf.1
            clear hd9 hf9 HD1 hf
            revert HF
            generalize wc = wy
            intro HF
            by_cases hi : i9 = s.size
            · have hi' : ((i9 : Int) != (s.size : Int)) = false := by simp; omega
              have HO' := Lib.hid (HF.out.2.2.1 hi)
              clear hi
              obtain ⟨qv, rv, hdb, howq, howr⟩ := HF.out.1.d
              obtain ⟨qa, qc, rfl⟩ := own_slice howq
              obtain ⟨ra, rc, rfl⟩ := own_slice howr
              have hne := HF.out.1.ne
              have d0 : wy.cell? ⟨db, 0, none⟩ = some (.int .i64 x) := cell_of_heap hdb rfl
              have d1 : wy.cell? ⟨db, 1, none⟩ = some (.int .i64 y) := cell_of_heap hdb rfl
              have d2 : wy.cell? ⟨db, 2, none⟩ = some (.slice qa qs.length qc) := cell_of_heap hdb rfl
              have d3 : wy.cell? ⟨db, 3, none⟩ = some (.slice ra rs.length rc) := cell_of_heap hdb rfl
              obtain ⟨z0, y0, p1, f1, p2, f2, p3, f3, hy4⟩ := store4 HF.out.1.b (.int .i64 x) (.int .i64 y) (.slice qa qs.length qc) (.slice ra rs.length rc)
              have g0 := cell_of_heap (o := 0) hy4 rfl
              have g1 := cell_of_heap (o := 1) hy4 rfl
              have g2 := cell_of_heap (o := 2) hy4 rfl
              have g3 := cell_of_heap (o := 3) hy4 rfl
              have HO := Lib.hid (And.intro howq howr)
              clear hdb howq howr hy4 hne
              go_wp2_with fail
              refine bodyPost_ret (v := .tuple #[.agg #[.int .i64 x, .int .i64 y, .slice qa qs.length qc, .slice ra rs.length rc], .int .i64 0]) ?_ rfl ?_
              · simp only [results, show Tryz.f92.results = #[ResultVar.cell 2 115, ResultVar.tmp 3] from rfl]
                go_simp
              · have kS : Keeps [bb] wy ((((wy.setCell ⟨bb, 0, none⟩ (.int .i64 x)).setCell ⟨bb, 1, none⟩ (.int .i64 y)).setCell ⟨bb, 2, none⟩ (.slice qa qs.length qc)).setCell ⟨bb, 3, none⟩ (.slice ra rs.length rc)) := ((((Keeps.refl [bb] wy).setCell (by simp) _).setCell (by simp) _).setCell (by simp) _).setCell (by simp) _
                refine ⟨HF.out.1.k.trans kS (fun b hb hlt => by have := HF.out.1.lb; simp at hb; omega), .inr ⟨qs, rs, _, _, _, _, HO'.out, rfl, kS.own HO.out.1 (fun g hg => ?_), kS.own HO.out.2 (fun g hg => ?_)⟩⟩
                · obtain ⟨cur, hc⟩ := own_type_at HO.out.1 hg
                  simpa using cells_ne hc HF.out.1.b (by decide)
                · obtain ⟨cur, hc⟩ := own_type_at HO.out.2 hg
                  simpa using cells_ne hc HF.out.1.b (by decide)
            · have hi' : ((i9 : Int) != (s.size : Int)) = true := by simp; omega
              have HQ := Lib.hid (HF.out.2.2.2 hi)
              clear hi
              obtain ⟨z0, y0, z1, y1, z2, y2, z3, y3, hz⟩ := store4 HF.out.1.b (.int .i64 0) (.int .i64 0) (.slice none 0 0) (.slice none 0 0)
              have g0 := cell_of_heap (o := 0) hz rfl
              have g1 := cell_of_heap (o := 1) hz rfl
              have g2 := cell_of_heap (o := 2) hz rfl
              have g3 := cell_of_heap (o := 3) hz rfl
              clear hz
              go_wp2_with fail
              refine bodyPost_ret (v := .tuple #[.agg #[.int .i64 0, .int .i64 0, .slice none 0 0, .slice none 0 0], .int .i64 2]) ?_ rfl ⟨rec_end HF.out.1.k (by omega), .inl ⟨HQ.out, 2, by decide, rfl⟩⟩
              simp only [results, show Tryz.f92.results = #[ResultVar.cell 2 115, ResultVar.tmp 3] from rfl]
              go_simp
end Go.Proofs.Sess
