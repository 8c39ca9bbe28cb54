/- A part of the proof that a session of datagrams answers as the reference (SessionDatagrams). Its contents: contracts of functions of the program, each stated with its premises. -/
import Derived.Test.YtkaafdoplemjhaaGreatDoorSessQA3
import Derived.Test.YtkaafdoplemjhaaGreatDoorSessQA4
import Derived.Test.YtkaafdoplemjhaaGreatDoorSessQA6
namespace Go.Proofs.Sess
open Go Go.RowKit

def bytesV (l : List Nat) : List Value := l.map fun (c : Nat) => .int .u8 (c : Int)
theorem bytesV_length (l : List Nat) : (bytesV l).length = l.length := by simp [bytesV]
theorem bytesV_append (l m : List Nat) : bytesV (l ++ m) = bytesV l ++ bytesV m := by simp [bytesV]

/-- The boxes of name's closure: the labels counted, the bytes, the reader. -/
structure NameBox (w : World) (bl bo br rb : Nat) (og : Option Nat) (count : Nat) (out : List Nat) : Prop where
  l : w.heap[bl]? = some (.cells #[.int .i64 (count : Int)] 3 (0, 0))
  o : ∃ v, w.heap[bo]? = some (.cells #[v] 75 (0, 0)) ∧ v.ownBlock = og ∧ w.ownsRow 0 5 1 v out.length (bytesV out)
  r : w.heap[br]? = some (.cells #[.pointer (some ⟨rb, 0, none⟩)] 165 (0, 0))

/-- The blocks that the closure writes. -/
def footN (bl bo rb : Nat) (og : Option Nat) : List Nat := [bl, bo, rb] ++ og.toList

theorem cells_ne {w : World} {a b : Nat} {x y : Array Value} {t u : TypeId} {f g : Nat × Nat} (h : w.heap[a]? = some (.cells x t f)) (k : w.heap[b]? = some (.cells y u g)) (ht : t ≠ u) : a ≠ b := fun e => by
  subst e
  rw [h] at k
  simp at k
  exact ht k.2.1

theorem own_type {w : World} {v : Value} {n g : Nat} {e : TypeId} {size : Nat} {xs : List Value} (h : w.ownsRow 0 e size v n xs) (hg : v.ownBlock = some g) : ∃ cur, w.heap[g]? = some (.cells cur e (0, 0)) := by
  rcases h.2 with ⟨hv, _⟩ | ⟨g', cap, cur, hv, _, hh, _⟩
  · subst hv; cases hg
  · subst hv
    simp [Value.ownBlock] at hg
    subst hg
    exact ⟨cur, hh⟩

theorem NameBox.keep {w w' : World} {bl bo br rb : Nat} {og : Option Nat} {count : Nat} {out : List Nat} (h : NameBox w bl bo br rb og count out) {S : List Nat} (hk : Keeps S w w') (hl : bl ∉ S) (ho : bo ∉ S) (hr : br ∉ S) (hg : ∀ g, og = some g → g ∉ S) : NameBox w' bl bo br rb og count out := by
  obtain ⟨v, h1, h2, h3⟩ := h.o
  exact ⟨hk.heap h.l hl, ⟨v, hk.heap h1 ho, h2, hk.own h3 (fun k hk' => hg k (by rw [← h2, hk']))⟩, hk.heap h.r hr⟩

/-- What distinguishes the blocks. -/
structure NameApart (bl bo br rb : Nat) (og : Option Nat) : Prop where
  lo : bl ≠ bo
  lr : bl ≠ br
  lb : bl ≠ rb
  or_ : bo ≠ br
  ob : bo ≠ rb
  rb_ : br ≠ rb
  g : ∀ k, og = some k → k ≠ bl ∧ k ≠ bo ∧ k ≠ br ∧ k ≠ rb

theorem NameBox.apart {w : World} {bl bo br rb : Nat} {og : Option Nat} {count : Nat} {out : List Nat} {s : ByteArray} {i e : Nat} (h : NameBox w bl bo br rb og count out) (hr : w.heap[rb]? = some (RdObj s i e)) : NameApart bl bo br rb og := by
  obtain ⟨v, h1, h2, h3⟩ := h.o
  refine ⟨cells_ne h.l h1 (by decide), cells_ne h.l h.r (by decide), cells_ne h.l hr (by decide), cells_ne h1 h.r (by decide), cells_ne h1 hr (by decide), cells_ne h.r hr (by decide), fun k hk => ?_⟩
  obtain ⟨cur, hc⟩ := own_type h3 (h2.trans hk)
  exact ⟨cells_ne hc h.l (by decide), cells_ne hc h1 (by decide), cells_ne hc h.r (by decide), cells_ne hc hr (by decide)⟩

/-- A label is written behind what is there. -/
def labelOut (s : ByteArray) (i count : Nat) (out : List Nat) (n : Nat) : Option (List Nat) :=
  if 24 < count + 1 ∨ 253 < out.length + min out.length 1 + n then none
  else if goodL s i n then some ((if count = 0 then out else out ++ [46]) ++ (cut s i n).map lowN) else none

/-- What the closure leaves. -/
def Labelled (w : World) (bl bo br rb : Nat) (og : Option Nat) (s : ByteArray) (i count : Nat) (out : List Nat) (n : Nat) (en : Ending) (w' : World) : Prop :=
  en = .returned (.tuple #[]) ∧ ∃ og' out' i' e', NameBox w' bl bo br rb og' (count + 1) out' ∧ w'.heap[rb]? = some (RdObj s i' e') ∧ Keeps (footN bl bo rb og) w w' ∧ (∀ g, og' = some g → og = some g ∨ w.heap.size ≤ g) ∧
    ((e' = 0 ∧ i' = i + n ∧ labelOut s i count out n = some out') ∨ (e' ≠ 0 ∧ labelOut s i count out n = none))
end Go.Proofs.Sess
namespace Go.Proofs.Sess
open Go Go.RowKit

theorem cut_succ (s : ByteArray) (i k : Nat) : cut s i (k + 1) = cut s i k ++ [byt s (i + k)] := by
  unfold cut; rw [List.range_succ, List.map_append]; rfl
theorem goodL_succ (s : ByteArray) (i k : Nat) : goodL s i (k + 1) = (goodL s i k && (decide (i + k < s.size) && letN (byt s (i + k)))) := by
  unfold goodL
  rw [cut_succ, List.all_append]
  simp only [List.all_cons, List.all_nil, Bool.and_true]
  by_cases h1 : i + (k + 1) ≤ s.size
  · have h2 : i + k ≤ s.size := by omega
    have h3 : i + k < s.size := by omega
    simp [h1, h2, h3]
  · by_cases h2 : i + k ≤ s.size
    · have h3 : ¬ i + k < s.size := by omega
      simp [h1, h3]
    · simp [h1, h2]
theorem goodL_zero (s : ByteArray) (i : Nat) : goodL s i 0 = decide (i ≤ s.size) := by
  unfold goodL cut; simp

/-- Where the label's bytes stand behind k of them. -/
def LabSt (s : ByteArray) (i k : Nat) (pre out' : List Nat) (i' e' : Nat) : Prop :=
  out'.length = pre.length + k ∧ ((e' = 0 ∧ i' = i + k ∧ goodL s i k = true ∧ out' = pre ++ (cut s i k).map lowN) ∨ (e' ≠ 0 ∧ goodL s i k = false))

def labE (c e : Nat) : Nat := if letN c = true then e else classE 0 e
theorem labE_yes {c : Nat} (h : letN c = true) (e : Nat) : labE c e = e := by unfold labE; rw [if_pos h]
theorem labE_no {c : Nat} (h : letN c = false) (e : Nat) : labE c e = classE 0 e := by unfold labE; rw [if_neg (by rw [h]; decide)]

theorem labSt_step {s : ByteArray} {i k : Nat} {pre out' : List Nat} {i' e' : Nat} (h : LabSt s i k pre out' i' e') : LabSt s i (k + 1) pre (out' ++ [lowN (nxt s i' e').1]) (nxt s i' e').2.1 (labE (nxt s i' e').1 (nxt s i' e').2.2) := by
  obtain ⟨hl, h⟩ := h
  refine ⟨by simp [hl]; omega, ?_⟩
  rw [goodL_succ, cut_succ]
  have l0 : letN 0 = false := by decide
  rcases h with ⟨rfl, rfl, hg, rfl⟩ | ⟨he, hg⟩
  · by_cases hi : i + k < s.size
    · have hx : nxt s (i + k) 0 = (byt s (i + k), i + k + 1, 0) := by unfold nxt; rw [if_pos rfl, if_pos hi]
      rw [hx]
      by_cases hb : letN (byt s (i + k)) = true
      · left
        refine ⟨labE_yes hb 0, by dsimp only; omega, by simp [hg, hi, hb], by simp⟩
      · right
        have hb' : letN (byt s (i + k)) = false := by simpa using hb
        refine ⟨?_, by simp [hb']⟩
        dsimp only
        rw [labE_no hb']; unfold classE; simp
    · have hx : nxt s (i + k) 0 = (0, i + k, 1) := by unfold nxt; rw [if_pos rfl, if_neg hi]
      rw [hx]
      right
      refine ⟨?_, by simp [hi]⟩
      dsimp only
      rw [labE_no l0]; unfold classE; simp
  · have hx : nxt s i' e' = (0, i', e') := by unfold nxt; rw [if_neg he]
    rw [hx]
    right
    refine ⟨?_, by simp [hg]⟩
    dsimp only
    rw [labE_no l0]; unfold classE; rw [if_neg (by decide), if_neg he]; exact he

/-- The state of the closure's loop. -/
def LabRel (w : World) (bl bo br rb : Nat) (og : Option Nat) (s : ByteArray) (i count : Nat) (pre : List Nat) (k : Nat) (wr : World) : Prop :=
  ∃ og' out' i' e', NameBox wr bl bo br rb og' (count + 1) out' ∧ wr.heap[rb]? = some (RdObj s i' e') ∧ Keeps (footN bl bo rb og) w wr ∧ (∀ g, og' = some g → og = some g ∨ w.heap.size ≤ g) ∧ LabSt s i k pre out' i' e'

theorem info5' : (Tryz.prog.info? 5).map (fun i => (i.zero, i.size, i.bytes)) = some (some (.int .u8 0), 1, 1) := by kernel_rfl

/-- The bytes that are owned, in a box. -/
theorem NameBox.slice {w : World} {bl bo br rb : Nat} {og : Option Nat} {count : Nat} {out : List Nat} (h : NameBox w bl bo br rb og count out) : ∃ a c, w.heap[bo]? = some (.cells #[.slice a out.length c] 75 (0, 0)) ∧ (Value.slice a out.length c).ownBlock = og ∧ w.ownsRow 0 5 1 (.slice a out.length c) out.length (bytesV out) := by
  obtain ⟨v, h1, h2, h3⟩ := h.o
  rcases h3.2 with ⟨hv, hn⟩ | ⟨g, cap, cur, hv, _⟩
  · subst hv
    exact ⟨none, 0, by rw [hn]; exact h1, h2, by rw [hn] at h3 ⊢; exact h3⟩
  · subst hv
    exact ⟨_, _, h1, h2, h3⟩

/-- A byte is appended to the bytes in the box: what the world behind it is. -/
theorem NameBox.put {w w1 w2 : World} {bl bo br rb : Nat} {og : Option Nat} {count : Nat} {out : List Nat} {s : ByteArray} {i e : Nat} {a : Option Addr} {c g cap : Nat} {b : Nat}
    (h : NameBox w bl bo br rb og count out) (hr : w.heap[rb]? = some (RdObj s i e)) (hb : w.heap[bo]? = some (.cells #[.slice a out.length c] 75 (0, 0))) (ho : (Value.slice a out.length c).ownBlock = og)
    (hk : Keeps [] w w1) (hown : w2.ownsRow 0 5 1 (.slice (some ⟨g, 0, none⟩) (out.length + 1) cap) (out.length + 1) (bytesV out ++ [.int .u8 (b : Int)])) (hgrow : w1.grownBy w2 (Value.slice a out.length c).ownBlock) (hat : (Value.slice a out.length c).ownBlock = some g ∨ w.heap.size ≤ g) :
    NameBox (w2.setCell ⟨bo, 0, none⟩ (.slice (some ⟨g, 0, none⟩) (out.length + 1) cap)) bl bo br rb (some g) count (out ++ [b]) ∧ (w2.setCell ⟨bo, 0, none⟩ (.slice (some ⟨g, 0, none⟩) (out.length + 1) cap)).heap[rb]? = some (RdObj s i e) ∧
      Keeps (footN bl bo rb og) w (w2.setCell ⟨bo, 0, none⟩ (.slice (some ⟨g, 0, none⟩) (out.length + 1) cap)) ∧ (∀ k, some g = some k → og = some k ∨ w.heap.size ≤ k) := by
  have ha := h.apart hr
  rw [ho] at hgrow hat
  have hk2 : Keeps og.toList w w2 := (hk.mono (by simp)).grown hgrow (fun k hk _ => by simp [hk])
  have hno : ∀ k, (∀ q, og = some q → q ≠ k) → k ∉ og.toList := fun k hq hm => hq k (by simpa using hm) rfl
  have hb2 := hk2.heap hb (hno _ fun q hq => (ha.g q hq).2.1)
  have hl2 := hk2.heap h.l (hno _ fun q hq => (ha.g q hq).1)
  have hr2 := hk2.heap h.r (hno _ fun q hq => (ha.g q hq).2.2.1)
  have hd2 := hk2.heap hr (hno _ fun q hq => (ha.g q hq).2.2.2)
  have hgo : g ≠ bo := by
    rcases hat with hh | hh
    · exact (ha.g g hh).2.1
    · have := lt_of_heap hb; omega
  have hkS : Keeps [bo] w2 (w2.setCell ⟨bo, 0, none⟩ (.slice (some ⟨g, 0, none⟩) (out.length + 1) cap)) := (Keeps.refl _ _).setCell (by simp) _
  refine ⟨⟨hkS.heap hl2 (by simpa using ha.lo), ⟨_, by rw [heap_setCell_self hb2]; rfl, rfl, ?_⟩, hkS.heap hr2 (by simpa using Ne.symm ha.or_)⟩, hkS.heap hd2 (by simpa using Ne.symm ha.ob), ?_, ?_⟩
  · have := hkS.own hown (fun k hk => by simp [Value.ownBlock] at hk; simp; omega)
    rw [bytesV_append]
    simpa [bytesV] using this
  · refine (hk2.mono (T := footN bl bo rb og) (by intro x hx _; simp [footN]; simp at hx; simp [hx])).trans hkS (by simp [footN])
  · intro k hk
    cases hk
    exact hat
end Go.Proofs.Sess
namespace Go.Proofs.Sess
open Go Go.RowKit

set_option maxRecDepth 100000 in
set_option maxHeartbeats 8000000 in
theorem label_zero (w : World) (bl bo br rb : Nat) (og : Option Nat) (s : ByteArray) (i n : Nat) (h : NameBox w bl bo br rb og 0 []) (hr : w.heap[rb]? = some (RdObj s i 0)) (hs : s.size < 1000000) (hi : i ≤ s.size) (hn : n ≤ 63) :
    Calls Tryz.prog 107 #[.int .i64 (n : Int), .pointer (some ⟨bl, 0, none⟩), .pointer (some ⟨bo, 0, none⟩), .pointer (some ⟨br, 0, none⟩)] w (Labelled w bl bo br rb og s i 0 [] n) := by
  obtain ⟨i0, hi0, hz0, hz1, hz2⟩ := info_parts info5'
  have ha := h.apart hr
  obtain ⟨a1, c1, hb1, ho1, hw1⟩ := h.slice
  have cl : w.cell? ⟨bl, 0, none⟩ = some (.int .i64 0) := cell_of_heap h.l rfl
  have fl : w.frozen? ⟨bl, 0, none⟩ = false := free_of_heap h.l
  have kl : Keeps [bl] w (w.setCell ⟨bl, 0, none⟩ (.int .i64 1)) := (Keeps.refl _ _).setCell (by simp) _
  have hL : (w.setCell ⟨bl, 0, none⟩ (.int .i64 1)).heap[bl]? = some (.cells #[.int .i64 1] 3 (0, 0)) := by rw [heap_setCell_self h.l]; rfl
  have cl1 : (w.setCell ⟨bl, 0, none⟩ (.int .i64 1)).cell? ⟨bl, 0, none⟩ = some (.int .i64 1) := cell_of_heap hL rfl
  have hb2 := kl.heap hb1 (by simpa using Ne.symm ha.lo)
  have cb1 : (w.setCell ⟨bl, 0, none⟩ (.int .i64 1)).cell? ⟨bo, 0, none⟩ = some (.slice a1 0 c1) := cell_of_heap hb2 rfl
  have hrel : LabRel w bl bo br rb og s i 0 [] 0 (w.setCell ⟨bl, 0, none⟩ (.int .i64 1)) :=
    ⟨og, [], i, 0, ⟨hL, ⟨_, hb2, ho1, kl.own hw1 (fun k hk => by rw [ho1] at hk; simpa using (ha.g k hk).1)⟩, kl.heap h.r (by simpa using Ne.symm ha.lr)⟩, kl.heap hr (by simpa using Ne.symm ha.lb), kl.mono (by simp [footN]), fun g hg => .inl hg, rfl, .inl ⟨rfl, rfl, by rw [goodL_zero]; simpa using hi, by simp [cut]⟩⟩
  have hbad : ¬ (24 < 0 + 1 ∨ 253 < ([] : List Nat).length + min ([] : List Nat).length 1 + n) := by simp; omega
  have hn2 : (n : Int) ≤ 63 := by omega
  have H0 := Lib.hid hrel
  have HB := Lib.hid hbad
  clear h hr ha hb1 hw1 ho1 kl hL hb2 hrel hbad
  go_enter Tryz.func107, Tryz.ntmps107
  go_wp2_with fail
  go_loopw [29] (fun i_ wr => ∃ k : Nat, k ≤ n ∧ i_ = .int .i64 k ∧ LabRel w bl bo br rb og s i 0 [] k wr) (fun i_ _ => n - (intOf i_).toNat)
  case atStart => exact ⟨0, Nat.zero_le _, rfl, H0.out⟩
  case round =>
    obtain ⟨k, hk, rfl, hrel⟩ := hrel
    obtain ⟨og', out', i', e', hnb, hrd, hkp, hgw, hst⟩ := hrel
    have cr : wr.cell? ⟨br, 0, none⟩ = some (.pointer (some ⟨rb, 0, none⟩)) := cell_of_heap hnb.r rfl
    by_cases hlt : k < n
    · have hstep := labSt_step hst
      have hNX := next_any wr rb s i' e' hrd hs
      have hcl : (nxt s i' e').1 < 256 := nxt_lt s i' e'
      have hol' : out'.length ≤ 1100 := by have := hst.1; simp at this; omega
      revert hstep hNX hcl
      generalize nxt s i' e' = p
      obtain ⟨cc, i2, e2⟩ := p
      dsimp only
      intro hstep hNX hcl
      have hcl2 : (cc : Int) ≤ 255 := by omega
      have hAP := hnb.apart hrd
      have HN := Lib.hid hNX
      have HR := Lib.hid (And.intro hnb (And.intro hrd (And.intro hkp (And.intro hgw (And.intro hst (And.intro hstep hAP))))))
      clear hnb hrd hkp hgw hst hstep hNX hAP
      cases hlet : letN cc
      · rw [labE_no hlet] at HR
        go_upto_region 10 with (first
          | (go_at_call 106; refine HN.out.mono ?_; rintro e w1 ⟨rfl, h2, k2⟩; have hap := HR.out.2.2.2.2.2.2; have cr1 : w1.cell? ⟨br, 0, none⟩ = some (.pointer (some ⟨rb, 0, none⟩)) := k2.cell cr (by simpa using hap.rb_); have H2 := Lib.hid (And.intro h2 k2); clear h2 k2 hap)
          | (go_at_call 109; refine (allowed_any cc hcl w1).mono ?_; rintro e w' ⟨rfl, rfl⟩; rw [hlet])
          | (go_at_call 108; have hf := fail_any w1 rb s i2 e2 2 H2.out.1; rw [failE] at hf; refine hf.mono ?_; rintro en w2 ⟨rfl, h3, k3⟩; have H3 := Lib.hid (And.intro h3 (H2.out.2.trans k3 (fun _ h _ => h))); clear h3 k3 hf))
        have hv : w2.heap[rb]? = some (RdObj s i2 (classE 0 e2)) ∧ Keeps [rb] wr w2 := H3.out
        have hap := HR.out.2.2.2.2.2.2
        have hnb2 : NameBox w2 bl bo br rb og' (0 + 1) out' := HR.out.1.keep hv.2 (by simpa using hap.lb) (by simpa using hap.ob) (by simpa using hap.rb_) (fun g hg => by simpa using (hap.g g hg).2.2.2)
        obtain ⟨a2, c2, hb2, ho2, hw2⟩ := hnb2.slice
        have hbd : w2.drew.cell? ⟨bo, 0, none⟩ = some (.slice a2 out'.length c2) := cell_of_heap (w := w2) hb2 rfl
        have hka : Keeps [] w2 (w2.drew.alloc (.cells #[.int .u8 (lowN cc : Int)] 5)) := (Keeps.refl _ _).drew.alloc _
        have HV := Lib.hid (And.intro hv (And.intro hnb2 (And.intro hb2 (And.intro ho2 (hw2 : w2.ownsRow 0 5 1 (.slice a2 out'.length c2) out'.length (bytesV out'))))))
        clear hv hnb2 hb2 hw2 ho2 hap cr
        have hS : (fun wx : World => wx.cell? ⟨bo, 0, none⟩ = some (.slice a2 out'.length c2)) w2.drew := hbd
        refine wp_region_seq (fun wx : World => wx.cell? ⟨bo, 0, none⟩ = some (.slice a2 out'.length c2))
          [(0, 1), (1, 0), (2, 2), (3, 2), (4, 3), (5, 3)]
          [[4, 0], [5, 0]] (by kernel_rfl) (by kernel_rfl) (fun d _ _ _ _ h => by cases d <;> exact h) ?_
        simp only [picks, List.getD_cons_succ, List.getD_cons_zero]
        (refine seq_read (v := ?_) hS (by rfl) ?_ ?_; rotate_left; focus (intro wq hSq; obtain hq1 := hSq; first | (go_simp; done) | (go_simp; with_reducible rfl))); (try simp only [Act.put, List.setIfInBounds_toArray, List.set_cons_zero, List.set_cons_succ])
        (refine seq_pure (v := ?_) (by rfl) ?_ ?_; rotate_left; focus (intro wq; first | (go_simp; done) | (go_simp; with_reducible rfl))); (try simp only [Act.put, List.setIfInBounds_toArray, List.set_cons_zero, List.set_cons_succ])
        refine seq_act (fun K hK => ?_)
        go_simp
        refine (small_any cc hcl _).mono ?_
        rintro e w' ⟨rfl, rfl⟩
        have hS1 : (fun wx : World => wx.cell? ⟨bo, 0, none⟩ = some (.slice a2 out'.length c2)) w2.drew := hS
        refine hK.out _ _ hS1 ?_; clear hK; clear K
        (try simp only [Act.put, List.setIfInBounds_toArray, List.set_cons_zero, List.set_cons_succ])
        refine seq_act (fun K hK => ?_)
        go_simp
        have hS2 : (fun wx : World => wx.cell? ⟨bo, 0, none⟩ = some (.slice a2 out'.length c2)) (w2.drew.alloc (.cells #[.int .u8 (lowN cc : Int)] 5)) := hka.cell (w := w2) hbd (by simp)
        refine hK.out _ _ hS2 ?_; clear hK; clear K
        (try simp only [Act.put, List.setIfInBounds_toArray, List.set_cons_zero, List.set_cons_succ])
        refine seq_do (fun K hK => ?_)
        refine step_append_lies _ (by rfl) _ _ _ (by rfl) 0 5 i0 _ 1 1 Tryz.underlying75 hi0 hz0 hz1 hz2 rfl (by omega) (.slice a2 out'.length c2) out'.length (bytesV out') (by rfl) (((World.ownsRow.drew HV.out.2.2.2.2).alloc _)) ⟨w2.heap.size, 0, none⟩ 1 1 [.int .u8 (lowN cc : Int)] (by rfl) (by rfl) (World.news_of_block heap_alloc_self) (by simp [Value.oneCell']) (by omega) (by unfold maxLen; omega) (by omega) (by simp) (w2.heap.size + 1) (by simp) ?_
        intro gg cap w3 hown3 hgrow3 hat3 hlt3
        have hpt := HV.out.2.1.put HV.out.1.1 HV.out.2.2.1 HV.out.2.2.2.1 hka hown3 hgrow3 (hat3.imp id (fun h => by omega))
        have hb3 : w3.heap[bo]? = some (.cells #[.slice a2 out'.length c2] 75 (0, 0)) := (hgrow3.block bo (by have := lt_of_heap HV.out.2.2.1; simp; omega) (by rw [HV.out.2.2.2.1]; intro hh; exact (HR.out.2.2.2.2.2.2.g bo hh.symm).2.1 rfl)).trans ((heap_alloc_far (show bo < w2.drew.heap.size from lt_of_heap (w := w2) HV.out.2.2.1)).trans HV.out.2.2.1)
        have cb3 : w3.cell? ⟨bo, 0, none⟩ = some (.slice a2 out'.length c2) := cell_of_heap hb3 rfl
        have fb3 : w3.frozen? ⟨bo, 0, none⟩ = false := free_of_heap hb3
        have HPT := Lib.hid hpt
        clear hown3 hgrow3 hat3 hpt hb3
        refine hK.out _ _ ?_; clear hK; clear K
        (try simp only [Act.put, List.setIfInBounds_toArray, List.set_cons_zero, List.set_cons_succ])
        refine seq_do (fun K hK => ?_)
        go_simp
        refine hK.out _ _ ?_; clear hK; clear K
        (try simp only [Act.put, List.setIfInBounds_toArray, List.set_cons_zero, List.set_cons_succ])
        refine seq_nil ?_
        clear hS hS1 hS2 hbd hka cb3 fb3
        go_wp2_with fail
        go_roundw
        case rel =>
          refine ⟨k + 1, by omega, by go_num, some gg, out' ++ [lowN cc], i2, (classE 0 e2), HPT.out.1, HPT.out.2.1, ?_, ?_, HR.out.2.2.2.2.2.1⟩
          · refine (HR.out.2.2.1.trans HV.out.1.2 (fun x hx _ => by simp [footN]; simp at hx; simp [hx])).trans HPT.out.2.2.1 (fun x hx hl => ?_)
            simp [footN] at hx ⊢
            rcases hx with hx | hx | hx | hx
            · exact .inl hx
            · exact .inr (.inl hx)
            · exact .inr (.inr (.inl hx))
            · rcases HR.out.2.2.2.1 x hx with h | h
              · exact .inr (.inr (.inr h))
              · omega
          · intro g hg
            rcases HPT.out.2.2.2 g hg with h | h
            · exact HR.out.2.2.2.1 g h
            · right
              have := HR.out.2.2.1.size
              have := HV.out.1.2.size
              omega
        case measure => simp [intOf]; omega
      · rw [labE_yes hlet] at HR
        go_upto_region 10 with (first
          | (go_at_call 106; refine HN.out.mono ?_; rintro e w2 ⟨rfl, h2, k2⟩; have H2 := Lib.hid (And.intro h2 k2); clear h2 k2)
          | (go_at_call 109; refine (allowed_any cc hcl w2).mono ?_; rintro e w' ⟨rfl, rfl⟩; rw [hlet]))
        have hv : w2.heap[rb]? = some (RdObj s i2 e2) ∧ Keeps [rb] wr w2 := H2.out
        have hap := HR.out.2.2.2.2.2.2
        have hnb2 : NameBox w2 bl bo br rb og' (0 + 1) out' := HR.out.1.keep hv.2 (by simpa using hap.lb) (by simpa using hap.ob) (by simpa using hap.rb_) (fun g hg => by simpa using (hap.g g hg).2.2.2)
        obtain ⟨a2, c2, hb2, ho2, hw2⟩ := hnb2.slice
        have hbd : w2.drew.cell? ⟨bo, 0, none⟩ = some (.slice a2 out'.length c2) := cell_of_heap (w := w2) hb2 rfl
        have hka : Keeps [] w2 (w2.drew.alloc (.cells #[.int .u8 (lowN cc : Int)] 5)) := (Keeps.refl _ _).drew.alloc _
        have HV := Lib.hid (And.intro hv (And.intro hnb2 (And.intro hb2 (And.intro ho2 (hw2 : w2.ownsRow 0 5 1 (.slice a2 out'.length c2) out'.length (bytesV out'))))))
        clear hv hnb2 hb2 hw2 ho2 hap cr
        have hS : (fun wx : World => wx.cell? ⟨bo, 0, none⟩ = some (.slice a2 out'.length c2)) w2.drew := hbd
        refine wp_region_seq (fun wx : World => wx.cell? ⟨bo, 0, none⟩ = some (.slice a2 out'.length c2))
          [(0, 1), (1, 0), (2, 2), (3, 2), (4, 3), (5, 3)]
          [[4, 0], [5, 0]] (by kernel_rfl) (by kernel_rfl) (fun d _ _ _ _ h => by cases d <;> exact h) ?_
        simp only [picks, List.getD_cons_succ, List.getD_cons_zero]
        (refine seq_read (v := ?_) hS (by rfl) ?_ ?_; rotate_left; focus (intro wq hSq; obtain hq1 := hSq; first | (go_simp; done) | (go_simp; with_reducible rfl))); (try simp only [Act.put, List.setIfInBounds_toArray, List.set_cons_zero, List.set_cons_succ])
        (refine seq_pure (v := ?_) (by rfl) ?_ ?_; rotate_left; focus (intro wq; first | (go_simp; done) | (go_simp; with_reducible rfl))); (try simp only [Act.put, List.setIfInBounds_toArray, List.set_cons_zero, List.set_cons_succ])
        refine seq_act (fun K hK => ?_)
        go_simp
        refine (small_any cc hcl _).mono ?_
        rintro e w' ⟨rfl, rfl⟩
        have hS1 : (fun wx : World => wx.cell? ⟨bo, 0, none⟩ = some (.slice a2 out'.length c2)) w2.drew := hS
        refine hK.out _ _ hS1 ?_; clear hK; clear K
        (try simp only [Act.put, List.setIfInBounds_toArray, List.set_cons_zero, List.set_cons_succ])
        refine seq_act (fun K hK => ?_)
        go_simp
        have hS2 : (fun wx : World => wx.cell? ⟨bo, 0, none⟩ = some (.slice a2 out'.length c2)) (w2.drew.alloc (.cells #[.int .u8 (lowN cc : Int)] 5)) := hka.cell (w := w2) hbd (by simp)
        refine hK.out _ _ hS2 ?_; clear hK; clear K
        (try simp only [Act.put, List.setIfInBounds_toArray, List.set_cons_zero, List.set_cons_succ])
        refine seq_do (fun K hK => ?_)
        refine step_append_lies _ (by rfl) _ _ _ (by rfl) 0 5 i0 _ 1 1 Tryz.underlying75 hi0 hz0 hz1 hz2 rfl (by omega) (.slice a2 out'.length c2) out'.length (bytesV out') (by rfl) (((World.ownsRow.drew HV.out.2.2.2.2).alloc _)) ⟨w2.heap.size, 0, none⟩ 1 1 [.int .u8 (lowN cc : Int)] (by rfl) (by rfl) (World.news_of_block heap_alloc_self) (by simp [Value.oneCell']) (by omega) (by unfold maxLen; omega) (by omega) (by simp) (w2.heap.size + 1) (by simp) ?_
        intro gg cap w3 hown3 hgrow3 hat3 hlt3
        have hpt := HV.out.2.1.put HV.out.1.1 HV.out.2.2.1 HV.out.2.2.2.1 hka hown3 hgrow3 (hat3.imp id (fun h => by omega))
        have hb3 : w3.heap[bo]? = some (.cells #[.slice a2 out'.length c2] 75 (0, 0)) := (hgrow3.block bo (by have := lt_of_heap HV.out.2.2.1; simp; omega) (by rw [HV.out.2.2.2.1]; intro hh; exact (HR.out.2.2.2.2.2.2.g bo hh.symm).2.1 rfl)).trans ((heap_alloc_far (show bo < w2.drew.heap.size from lt_of_heap (w := w2) HV.out.2.2.1)).trans HV.out.2.2.1)
        have cb3 : w3.cell? ⟨bo, 0, none⟩ = some (.slice a2 out'.length c2) := cell_of_heap hb3 rfl
        have fb3 : w3.frozen? ⟨bo, 0, none⟩ = false := free_of_heap hb3
        have HPT := Lib.hid hpt
        clear hown3 hgrow3 hat3 hpt hb3
        refine hK.out _ _ ?_; clear hK; clear K
        (try simp only [Act.put, List.setIfInBounds_toArray, List.set_cons_zero, List.set_cons_succ])
        refine seq_do (fun K hK => ?_)
        go_simp
        refine hK.out _ _ ?_; clear hK; clear K
        (try simp only [Act.put, List.setIfInBounds_toArray, List.set_cons_zero, List.set_cons_succ])
        refine seq_nil ?_
        clear hS hS1 hS2 hbd hka cb3 fb3
        go_wp2_with fail
        go_roundw
        case rel =>
          refine ⟨k + 1, by omega, by go_num, some gg, out' ++ [lowN cc], i2, e2, HPT.out.1, HPT.out.2.1, ?_, ?_, HR.out.2.2.2.2.2.1⟩
          · refine (HR.out.2.2.1.trans HV.out.1.2 (fun x hx _ => by simp [footN]; simp at hx; simp [hx])).trans HPT.out.2.2.1 (fun x hx hl => ?_)
            simp [footN] at hx ⊢
            rcases hx with hx | hx | hx | hx
            · exact .inl hx
            · exact .inr (.inl hx)
            · exact .inr (.inr (.inl hx))
            · rcases HR.out.2.2.2.1 x hx with h | h
              · exact .inr (.inr (.inr h))
              · omega
          · intro g hg
            rcases HPT.out.2.2.2 g hg with h | h
            · exact HR.out.2.2.2.1 g h
            · right
              have := HR.out.2.2.1.size
              have := HV.out.1.2.size
              omega
        case measure => simp [intOf]; omega
    · have hkn : k = n := by omega
      subst hkn
      have HR := Lib.hid (And.intro hnb (And.intro hrd (And.intro hkp (And.intro hgw hst))))
      clear hnb hrd hkp hgw hst cr
      go_wp2_with fail
      go_end0
      refine ⟨rfl, og', out', i', e', HR.out.1, HR.out.2.1, HR.out.2.2.1, HR.out.2.2.2.1, ?_⟩
      rcases HR.out.2.2.2.2.2 with ⟨he, hi', hg, ho⟩ | ⟨he, hg⟩
      · left; exact ⟨he, hi', by unfold labelOut; rw [if_neg HB.out, hg, ho]; rfl⟩
      · right; exact ⟨he, by unfold labelOut; rw [if_neg HB.out, hg]; rfl⟩
end Go.Proofs.Sess
namespace Go.Proofs.Sess
open Go Go.RowKit

set_option maxRecDepth 100000 in
set_option maxHeartbeats 8000000 in
theorem label_over (w : World) (bl bo br rb : Nat) (og : Option Nat) (s : ByteArray) (i count : Nat) (out : List Nat) (n : Nat) (h : NameBox w bl bo br rb og count out) (hr : w.heap[rb]? = some (RdObj s i 0)) (hn : n ≤ 63) (hc : count ≤ 24) (hc1 : 1 ≤ count) (ho1 : 1 ≤ out.length) (ho2 : out.length ≤ 1000) (hbad : 24 < count + 1 ∨ 253 < out.length + min out.length 1 + n) :
    Calls Tryz.prog 107 #[.int .i64 (n : Int), .pointer (some ⟨bl, 0, none⟩), .pointer (some ⟨bo, 0, none⟩), .pointer (some ⟨br, 0, none⟩)] w (Labelled w bl bo br rb og s i count out n) := by
  have hlo : labelOut s i count out n = none := by unfold labelOut; rw [if_pos hbad]
  have hmin : min out.length 1 = 1 := by omega
  rw [hmin] at hbad
  clear hmin
  have ha := h.apart hr
  obtain ⟨a1, c1, hb1, hq1, hw1⟩ := h.slice
  have cl : w.cell? ⟨bl, 0, none⟩ = some (.int .i64 (count : Int)) := cell_of_heap h.l rfl
  have fl : w.frozen? ⟨bl, 0, none⟩ = false := free_of_heap h.l
  have kl : Keeps [bl] w (w.setCell ⟨bl, 0, none⟩ (.int .i64 ((count : Int) + 1))) := (Keeps.refl _ _).setCell (by simp) _
  have hL : (w.setCell ⟨bl, 0, none⟩ (.int .i64 ((count : Int) + 1))).heap[bl]? = some (.cells #[.int .i64 ((count + 1 : Nat) : Int)] 3 (0, 0)) := by rw [heap_setCell_self h.l]; rfl
  have cl1 : (w.setCell ⟨bl, 0, none⟩ (.int .i64 ((count : Int) + 1))).cell? ⟨bl, 0, none⟩ = some (.int .i64 ((count : Int) + 1)) := cell_of_heap hL rfl
  have hb2 := kl.heap hb1 (by simpa using Ne.symm ha.lo)
  have cb1 : (w.setCell ⟨bl, 0, none⟩ (.int .i64 ((count : Int) + 1))).cell? ⟨bo, 0, none⟩ = some (.slice a1 out.length c1) := cell_of_heap hb2 rfl
  have cr1 : (w.setCell ⟨bl, 0, none⟩ (.int .i64 ((count : Int) + 1))).cell? ⟨br, 0, none⟩ = some (.pointer (some ⟨rb, 0, none⟩)) := cell_of_heap (kl.heap h.r (by simpa using Ne.symm ha.lr)) rfl
  have hd1 := kl.heap hr (by simpa using Ne.symm ha.lb)
  have hnb1 : NameBox (w.setCell ⟨bl, 0, none⟩ (.int .i64 ((count : Int) + 1))) bl bo br rb og (count + 1) out := ⟨hL, ⟨_, hb2, hq1, kl.own hw1 (fun k hk => by rw [hq1] at hk; simpa using (ha.g k hk).1)⟩, kl.heap h.r (by simpa using Ne.symm ha.lr)⟩
  have hF := Lib.hid (fail_any (w.setCell ⟨bl, 0, none⟩ (.int .i64 ((count : Int) + 1))) rb s i 0 2 hd1)
  have H0 := Lib.hid (And.intro hnb1 (And.intro kl (And.intro hlo ha)))
  have hn2 : (n : Int) ≤ 63 := by omega
  have hc2 : (count : Int) ≤ 24 := by omega
  have hc3 : (1 : Int) ≤ (count : Int) := by omega
  have ho3 : (1 : Int) ≤ (out.length : Int) := by omega
  have ho4 : (out.length : Int) ≤ 1000 := by omega
  clear h hr ha hb1 hw1 hq1 kl hL hb2 hd1 hnb1 hlo hc hc1 ho1 ho2 hn
  by_cases h24 : 24 < count + 1
  · have h25 : (24 : Int) < (count : Int) + 1 := by omega
    clear hbad h24
    go_enter Tryz.func107, Tryz.ntmps107
    go_wp2_with (go_at_call 108; refine hF.out.mono ?_; rintro en w2 ⟨rfl, h3, k3⟩; have H3 := Lib.hid (And.intro h3 k3); clear h3 k3)
    refine bodyPost_ret (results_none rfl _ _ _) rfl ?_
    have hap := H0.out.2.2.2
    exact ⟨rfl, og, out, i, 2, H0.out.1.keep H3.out.2 (by simpa using hap.lb) (by simpa using hap.ob) (by simpa using hap.rb_) (fun g hg => by simpa using (hap.g g hg).2.2.2), H3.out.1, (H0.out.2.1.mono (by simp [footN])).trans H3.out.2 (by simp [footN]), fun g hg => .inl hg, .inr ⟨by decide, H0.out.2.2.1⟩⟩
  · have h25 : (count : Int) + 1 ≤ 24 := by omega
    have h26 : (253 : Int) < (out.length : Int) + 1 + (n : Int) := by omega
    clear hbad h24
    go_enter Tryz.func107, Tryz.ntmps107
    go_wp2_with (go_at_call 108; refine hF.out.mono ?_; rintro en w2 ⟨rfl, h3, k3⟩; have H3 := Lib.hid (And.intro h3 k3); clear h3 k3)
    refine bodyPost_ret (results_none rfl _ _ _) rfl ?_
    have hap := H0.out.2.2.2
    exact ⟨rfl, og, out, i, 2, H0.out.1.keep H3.out.2 (by simpa using hap.lb) (by simpa using hap.ob) (by simpa using hap.rb_) (fun g hg => by simpa using (hap.g g hg).2.2.2), H3.out.1, (H0.out.2.1.mono (by simp [footN])).trans H3.out.2 (by simp [footN]), fun g hg => .inl hg, .inr ⟨by decide, H0.out.2.2.1⟩⟩

set_option maxRecDepth 100000 in
set_option maxHeartbeats 8000000 in
theorem label_more (w : World) (bl bo br rb : Nat) (og : Option Nat) (s : ByteArray) (i count : Nat) (out : List Nat) (n : Nat) (h : NameBox w bl bo br rb og count out) (hr : w.heap[rb]? = some (RdObj s i 0)) (hs : s.size < 1000000) (hi : i ≤ s.size) (hn : n ≤ 63) (hc1 : 1 ≤ count) (ho1 : 1 ≤ out.length) (hbad : ¬ (24 < count + 1 ∨ 253 < out.length + min out.length 1 + n)) :
    Calls Tryz.prog 107 #[.int .i64 (n : Int), .pointer (some ⟨bl, 0, none⟩), .pointer (some ⟨bo, 0, none⟩), .pointer (some ⟨br, 0, none⟩)] w (Labelled w bl bo br rb og s i count out n) := by
  obtain ⟨i0, hi0, hz0, hz1, hz2⟩ := info_parts info5'
  have HB := Lib.hid hbad
  have hmin : min out.length 1 = 1 := by omega
  rw [hmin] at hbad
  clear hmin
  have hbp : count + 1 ≤ 24 ∧ out.length + 1 + n ≤ 253 := by omega
  clear hbad
  have ha := h.apart hr
  obtain ⟨a1, c1, hb1, hq1, hw1⟩ := h.slice
  have cl : w.cell? ⟨bl, 0, none⟩ = some (.int .i64 (count : Int)) := cell_of_heap h.l rfl
  have fl : w.frozen? ⟨bl, 0, none⟩ = false := free_of_heap h.l
  have kl : Keeps [bl] w (w.setCell ⟨bl, 0, none⟩ (.int .i64 ((count : Int) + 1))) := (Keeps.refl _ _).setCell (by simp) _
  have hL : (w.setCell ⟨bl, 0, none⟩ (.int .i64 ((count : Int) + 1))).heap[bl]? = some (.cells #[.int .i64 ((count + 1 : Nat) : Int)] 3 (0, 0)) := by rw [heap_setCell_self h.l]; rfl
  have cl1 : (w.setCell ⟨bl, 0, none⟩ (.int .i64 ((count : Int) + 1))).cell? ⟨bl, 0, none⟩ = some (.int .i64 ((count : Int) + 1)) := cell_of_heap hL rfl
  have hb2 := kl.heap hb1 (by simpa using Ne.symm ha.lo)
  have cb1 : (w.setCell ⟨bl, 0, none⟩ (.int .i64 ((count : Int) + 1))).cell? ⟨bo, 0, none⟩ = some (.slice a1 out.length c1) := cell_of_heap hb2 rfl
  have hnb1 : NameBox (w.setCell ⟨bl, 0, none⟩ (.int .i64 ((count : Int) + 1))) bl bo br rb og (count + 1) out := ⟨hL, ⟨_, hb2, hq1, kl.own hw1 (fun k hk => by rw [hq1] at hk; simpa using (ha.g k hk).1)⟩, kl.heap h.r (by simpa using Ne.symm ha.lr)⟩
  have hd1 := kl.heap hr (by simpa using Ne.symm ha.lb)
  have hz1' : (w.setCell ⟨bl, 0, none⟩ (.int .i64 ((count : Int) + 1))).heap.size = w.heap.size := by simp [World.setCell]
  have hn2 : (n : Int) ≤ 63 := by omega
  have hc2 : (count : Int) + 1 ≤ 24 := by omega
  have hc3 : (1 : Int) ≤ (count : Int) := by omega
  have ho3 : (1 : Int) ≤ (out.length : Int) := by omega
  have ho4 : (out.length : Int) + 1 + (n : Int) ≤ 253 := by omega
  have H0 := Lib.hid (And.intro hnb1 (And.intro kl (And.intro hd1 (And.intro hb2 (And.intro hq1 hz1')))))
  clear h hr ha hb1 hw1 hq1 kl hL hb2 hd1 hnb1 hz1'
  go_enter Tryz.func107, Tryz.ntmps107
  go_upto_region 4 with fail
  clear cl fl
  revert cl1 cb1 H0
  generalize hWe : (w.setCell ⟨bl, 0, none⟩ (.int .i64 ((count : Int) + 1))) = W
  intro cl1 cb1 H0
  have fb1 : W.frozen? ⟨bo, 0, none⟩ = false := free_of_heap H0.out.2.2.2.1
  obtain ⟨a3, c3, hb3, hq3, hw3⟩ := H0.out.1.slice
  have he3 : (Value.slice a1 out.length c1) = .slice a3 out.length c3 := by
    have h1 := H0.out.2.2.2.1
    rw [hb3] at h1
    simp at h1
    simp [h1]
  have hown : W.ownsRow 0 5 1 (.slice a1 out.length c1) out.length (bytesV out) := by rw [he3]; exact hw3
  have HO := Lib.hid hown
  clear hown hw3 hq3 hb3 he3
  go_wp2_with (refine wpList_append_lies _ (by rfl) _ _ _ (by rfl) 0 5 i0 _ 1 1 Tryz.underlying75 hi0 hz0 hz1 hz2 rfl (by omega) (.slice a1 out.length c1) out.length (bytesV out) (by rfl) (HO.out.alloc _) ⟨W.heap.size, 0, none⟩ 1 1 [.int .u8 46] (by rfl) (by rfl) (World.news_of_block heap_alloc_self) (by simp [Value.oneCell']) (by omega) (by unfold maxLen; omega) (by omega) (by simp) (W.heap.size + 1) (by simp) ?_
               intro gg cap w3 hown3 hgrow3 hat3 hlt3
               have hpt := H0.out.1.put (b := 46) H0.out.2.2.1 H0.out.2.2.2.1 H0.out.2.2.2.2.1 ((Keeps.refl [] W).alloc _) hown3 hgrow3 (hat3.imp id (fun h => by omega))
               have hb4 : w3.heap[bo]? = some (.cells #[.slice a1 out.length c1] 75 (0, 0)) := (hgrow3.block bo (by have := lt_of_heap H0.out.2.2.2.1; simp; omega) (by rw [H0.out.2.2.2.2.1]; intro hh; exact ((H0.out.1.apart H0.out.2.2.1).g bo hh.symm).2.1 rfl)).trans ((heap_alloc_far (lt_of_heap H0.out.2.2.2.1)).trans H0.out.2.2.2.1)
               have cb3 : w3.cell? ⟨bo, 0, none⟩ = some (.slice a1 out.length c1) := cell_of_heap hb4 rfl
               have fb3 : w3.frozen? ⟨bo, 0, none⟩ = false := free_of_heap hb4
               have HPT0 := Lib.hid hpt
               clear hown3 hgrow3 hat3 hpt hb4)
  have hrel : LabRel w bl bo br rb og s i count (out ++ [46]) 0 (w3.setCell ⟨bo, 0, none⟩ (.slice (some ⟨gg, 0, none⟩) (out.length + 1) cap)) := by
    refine ⟨some gg, out ++ [46], i, 0, HPT0.out.1, HPT0.out.2.1, (H0.out.2.1.mono (by simp [footN])).trans HPT0.out.2.2.1 (fun x hx _ => hx), fun k hk => ?_, rfl, .inl ⟨rfl, rfl, by rw [goodL_zero]; simpa using hi, by simp [cut]⟩⟩
    rcases HPT0.out.2.2.2 k hk with hh | hh
    · exact .inl hh
    · right; rw [H0.out.2.2.2.2.2] at hh; exact hh
  have H00 := Lib.hid hrel
  have hol0 : out.length ≤ 1000 := by omega
  clear hrel cb1 fb1 cb3 fb3 cl1 HPT0
  go_loopw [29] (fun i_ wr => ∃ k : Nat, k ≤ n ∧ i_ = .int .i64 k ∧ LabRel w bl bo br rb og s i count (out ++ [46]) k wr) (fun i_ _ => n - (intOf i_).toNat)
  case atStart => exact ⟨0, Nat.zero_le _, rfl, H00.out⟩
  case round =>
    obtain ⟨k, hk, rfl, hrel⟩ := hrel
    obtain ⟨og', out', i', e', hnb, hrd, hkp, hgw, hst⟩ := hrel
    have cr : wr.cell? ⟨br, 0, none⟩ = some (.pointer (some ⟨rb, 0, none⟩)) := cell_of_heap hnb.r rfl
    by_cases hlt : k < n
    · have hstep := labSt_step hst
      have hNX := next_any wr rb s i' e' hrd hs
      have hcl : (nxt s i' e').1 < 256 := nxt_lt s i' e'
      have hol' : out'.length ≤ 1100 := by have := hst.1; simp at this; omega
      revert hstep hNX hcl
      generalize nxt s i' e' = p
      obtain ⟨cc, i2, e2⟩ := p
      dsimp only
      intro hstep hNX hcl
      have hcl2 : (cc : Int) ≤ 255 := by omega
      have hAP := hnb.apart hrd
      have HN := Lib.hid hNX
      have HR := Lib.hid (And.intro hnb (And.intro hrd (And.intro hkp (And.intro hgw (And.intro hst (And.intro hstep hAP))))))
      clear hnb hrd hkp hgw hst hstep hNX hAP
      cases hlet : letN cc
      · rw [labE_no hlet] at HR
        go_upto_region 10 with (first
          | (go_at_call 106; refine HN.out.mono ?_; rintro e w1 ⟨rfl, h2, k2⟩; have hap := HR.out.2.2.2.2.2.2; have cr1 : w1.cell? ⟨br, 0, none⟩ = some (.pointer (some ⟨rb, 0, none⟩)) := k2.cell cr (by simpa using hap.rb_); have H2 := Lib.hid (And.intro h2 k2); clear h2 k2 hap)
          | (go_at_call 109; refine (allowed_any cc hcl w1).mono ?_; rintro e w' ⟨rfl, rfl⟩; rw [hlet])
          | (go_at_call 108; have hf := fail_any w1 rb s i2 e2 2 H2.out.1; rw [failE] at hf; refine hf.mono ?_; rintro en w2 ⟨rfl, h3, k3⟩; have H3 := Lib.hid (And.intro h3 (H2.out.2.trans k3 (fun _ h _ => h))); clear h3 k3 hf))
        have hv : w2.heap[rb]? = some (RdObj s i2 (classE 0 e2)) ∧ Keeps [rb] wr w2 := H3.out
        have hap := HR.out.2.2.2.2.2.2
        have hnb2 : NameBox w2 bl bo br rb og' (count + 1) out' := HR.out.1.keep hv.2 (by simpa using hap.lb) (by simpa using hap.ob) (by simpa using hap.rb_) (fun g hg => by simpa using (hap.g g hg).2.2.2)
        obtain ⟨a2, c2, hb2, ho2, hw2⟩ := hnb2.slice
        have hbd : w2.drew.cell? ⟨bo, 0, none⟩ = some (.slice a2 out'.length c2) := cell_of_heap (w := w2) hb2 rfl
        have hka : Keeps [] w2 (w2.drew.alloc (.cells #[.int .u8 (lowN cc : Int)] 5)) := (Keeps.refl _ _).drew.alloc _
        have HV := Lib.hid (And.intro hv (And.intro hnb2 (And.intro hb2 (And.intro ho2 (hw2 : w2.ownsRow 0 5 1 (.slice a2 out'.length c2) out'.length (bytesV out'))))))
        clear hv hnb2 hb2 hw2 ho2 hap cr
        have hS : (fun wx : World => wx.cell? ⟨bo, 0, none⟩ = some (.slice a2 out'.length c2)) w2.drew := hbd
        refine wp_region_seq (fun wx : World => wx.cell? ⟨bo, 0, none⟩ = some (.slice a2 out'.length c2))
          [(0, 1), (1, 0), (2, 2), (3, 2), (4, 3), (5, 3)]
          [[4, 0], [5, 0]] (by kernel_rfl) (by kernel_rfl) (fun d _ _ _ _ h => by cases d <;> exact h) ?_
        simp only [picks, List.getD_cons_succ, List.getD_cons_zero]
        (refine seq_read (v := ?_) hS (by rfl) ?_ ?_; rotate_left; focus (intro wq hSq; obtain hq1 := hSq; first | (go_simp; done) | (go_simp; with_reducible rfl))); (try simp only [Act.put, List.setIfInBounds_toArray, List.set_cons_zero, List.set_cons_succ])
        (refine seq_pure (v := ?_) (by rfl) ?_ ?_; rotate_left; focus (intro wq; first | (go_simp; done) | (go_simp; with_reducible rfl))); (try simp only [Act.put, List.setIfInBounds_toArray, List.set_cons_zero, List.set_cons_succ])
        refine seq_act (fun K hK => ?_)
        go_simp
        refine (small_any cc hcl _).mono ?_
        rintro e w' ⟨rfl, rfl⟩
        have hS1 : (fun wx : World => wx.cell? ⟨bo, 0, none⟩ = some (.slice a2 out'.length c2)) w2.drew := hS
        refine hK.out _ _ hS1 ?_; clear hK; clear K
        (try simp only [Act.put, List.setIfInBounds_toArray, List.set_cons_zero, List.set_cons_succ])
        refine seq_act (fun K hK => ?_)
        go_simp
        have hS2 : (fun wx : World => wx.cell? ⟨bo, 0, none⟩ = some (.slice a2 out'.length c2)) (w2.drew.alloc (.cells #[.int .u8 (lowN cc : Int)] 5)) := hka.cell (w := w2) hbd (by simp)
        refine hK.out _ _ hS2 ?_; clear hK; clear K
        (try simp only [Act.put, List.setIfInBounds_toArray, List.set_cons_zero, List.set_cons_succ])
        refine seq_do (fun K hK => ?_)
        refine step_append_lies _ (by rfl) _ _ _ (by rfl) 0 5 i0 _ 1 1 Tryz.underlying75 hi0 hz0 hz1 hz2 rfl (by omega) (.slice a2 out'.length c2) out'.length (bytesV out') (by rfl) (((World.ownsRow.drew HV.out.2.2.2.2).alloc _)) ⟨w2.heap.size, 0, none⟩ 1 1 [.int .u8 (lowN cc : Int)] (by rfl) (by rfl) (World.news_of_block heap_alloc_self) (by simp [Value.oneCell']) (by omega) (by unfold maxLen; omega) (by omega) (by simp) (w2.heap.size + 1) (by simp) ?_
        intro gg cap w3 hown3 hgrow3 hat3 hlt3
        have hpt := HV.out.2.1.put HV.out.1.1 HV.out.2.2.1 HV.out.2.2.2.1 hka hown3 hgrow3 (hat3.imp id (fun h => by omega))
        have hb3 : w3.heap[bo]? = some (.cells #[.slice a2 out'.length c2] 75 (0, 0)) := (hgrow3.block bo (by have := lt_of_heap HV.out.2.2.1; simp; omega) (by rw [HV.out.2.2.2.1]; intro hh; exact (HR.out.2.2.2.2.2.2.g bo hh.symm).2.1 rfl)).trans ((heap_alloc_far (show bo < w2.drew.heap.size from lt_of_heap (w := w2) HV.out.2.2.1)).trans HV.out.2.2.1)
        have cb3 : w3.cell? ⟨bo, 0, none⟩ = some (.slice a2 out'.length c2) := cell_of_heap hb3 rfl
        have fb3 : w3.frozen? ⟨bo, 0, none⟩ = false := free_of_heap hb3
        have HPT := Lib.hid hpt
        clear hown3 hgrow3 hat3 hpt hb3
        refine hK.out _ _ ?_; clear hK; clear K
        (try simp only [Act.put, List.setIfInBounds_toArray, List.set_cons_zero, List.set_cons_succ])
        refine seq_do (fun K hK => ?_)
        go_simp
        refine hK.out _ _ ?_; clear hK; clear K
        (try simp only [Act.put, List.setIfInBounds_toArray, List.set_cons_zero, List.set_cons_succ])
        refine seq_nil ?_
        clear hS hS1 hS2 hbd hka cb3 fb3
        go_wp2_with fail
        go_roundw
        case rel =>
          refine ⟨k + 1, by omega, by go_num, some gg, out' ++ [lowN cc], i2, (classE 0 e2), HPT.out.1, HPT.out.2.1, ?_, ?_, HR.out.2.2.2.2.2.1⟩
          · refine (HR.out.2.2.1.trans HV.out.1.2 (fun x hx _ => by simp [footN]; simp at hx; simp [hx])).trans HPT.out.2.2.1 (fun x hx hl => ?_)
            simp [footN] at hx ⊢
            rcases hx with hx | hx | hx | hx
            · exact .inl hx
            · exact .inr (.inl hx)
            · exact .inr (.inr (.inl hx))
            · rcases HR.out.2.2.2.1 x hx with h | h
              · exact .inr (.inr (.inr h))
              · omega
          · intro g hg
            rcases HPT.out.2.2.2 g hg with h | h
            · exact HR.out.2.2.2.1 g h
            · right
              have := HR.out.2.2.1.size
              have := HV.out.1.2.size
              omega
        case measure => simp [intOf]; omega
      · rw [labE_yes hlet] at HR
        go_upto_region 10 with (first
          | (go_at_call 106; refine HN.out.mono ?_; rintro e w2 ⟨rfl, h2, k2⟩; have H2 := Lib.hid (And.intro h2 k2); clear h2 k2)
          | (go_at_call 109; refine (allowed_any cc hcl w2).mono ?_; rintro e w' ⟨rfl, rfl⟩; rw [hlet]))
        have hv : w2.heap[rb]? = some (RdObj s i2 e2) ∧ Keeps [rb] wr w2 := H2.out
        have hap := HR.out.2.2.2.2.2.2
        have hnb2 : NameBox w2 bl bo br rb og' (count + 1) out' := HR.out.1.keep hv.2 (by simpa using hap.lb) (by simpa using hap.ob) (by simpa using hap.rb_) (fun g hg => by simpa using (hap.g g hg).2.2.2)
        obtain ⟨a2, c2, hb2, ho2, hw2⟩ := hnb2.slice
        have hbd : w2.drew.cell? ⟨bo, 0, none⟩ = some (.slice a2 out'.length c2) := cell_of_heap (w := w2) hb2 rfl
        have hka : Keeps [] w2 (w2.drew.alloc (.cells #[.int .u8 (lowN cc : Int)] 5)) := (Keeps.refl _ _).drew.alloc _
        have HV := Lib.hid (And.intro hv (And.intro hnb2 (And.intro hb2 (And.intro ho2 (hw2 : w2.ownsRow 0 5 1 (.slice a2 out'.length c2) out'.length (bytesV out'))))))
        clear hv hnb2 hb2 hw2 ho2 hap cr
        have hS : (fun wx : World => wx.cell? ⟨bo, 0, none⟩ = some (.slice a2 out'.length c2)) w2.drew := hbd
        refine wp_region_seq (fun wx : World => wx.cell? ⟨bo, 0, none⟩ = some (.slice a2 out'.length c2))
          [(0, 1), (1, 0), (2, 2), (3, 2), (4, 3), (5, 3)]
          [[4, 0], [5, 0]] (by kernel_rfl) (by kernel_rfl) (fun d _ _ _ _ h => by cases d <;> exact h) ?_
        simp only [picks, List.getD_cons_succ, List.getD_cons_zero]
        (refine seq_read (v := ?_) hS (by rfl) ?_ ?_; rotate_left; focus (intro wq hSq; obtain hq1 := hSq; first | (go_simp; done) | (go_simp; with_reducible rfl))); (try simp only [Act.put, List.setIfInBounds_toArray, List.set_cons_zero, List.set_cons_succ])
        (refine seq_pure (v := ?_) (by rfl) ?_ ?_; rotate_left; focus (intro wq; first | (go_simp; done) | (go_simp; with_reducible rfl))); (try simp only [Act.put, List.setIfInBounds_toArray, List.set_cons_zero, List.set_cons_succ])
        refine seq_act (fun K hK => ?_)
        go_simp
        refine (small_any cc hcl _).mono ?_
        rintro e w' ⟨rfl, rfl⟩
        have hS1 : (fun wx : World => wx.cell? ⟨bo, 0, none⟩ = some (.slice a2 out'.length c2)) w2.drew := hS
        refine hK.out _ _ hS1 ?_; clear hK; clear K
        (try simp only [Act.put, List.setIfInBounds_toArray, List.set_cons_zero, List.set_cons_succ])
        refine seq_act (fun K hK => ?_)
        go_simp
        have hS2 : (fun wx : World => wx.cell? ⟨bo, 0, none⟩ = some (.slice a2 out'.length c2)) (w2.drew.alloc (.cells #[.int .u8 (lowN cc : Int)] 5)) := hka.cell (w := w2) hbd (by simp)
        refine hK.out _ _ hS2 ?_; clear hK; clear K
        (try simp only [Act.put, List.setIfInBounds_toArray, List.set_cons_zero, List.set_cons_succ])
        refine seq_do (fun K hK => ?_)
        refine step_append_lies _ (by rfl) _ _ _ (by rfl) 0 5 i0 _ 1 1 Tryz.underlying75 hi0 hz0 hz1 hz2 rfl (by omega) (.slice a2 out'.length c2) out'.length (bytesV out') (by rfl) (((World.ownsRow.drew HV.out.2.2.2.2).alloc _)) ⟨w2.heap.size, 0, none⟩ 1 1 [.int .u8 (lowN cc : Int)] (by rfl) (by rfl) (World.news_of_block heap_alloc_self) (by simp [Value.oneCell']) (by omega) (by unfold maxLen; omega) (by omega) (by simp) (w2.heap.size + 1) (by simp) ?_
        intro gg cap w3 hown3 hgrow3 hat3 hlt3
        have hpt := HV.out.2.1.put HV.out.1.1 HV.out.2.2.1 HV.out.2.2.2.1 hka hown3 hgrow3 (hat3.imp id (fun h => by omega))
        have hb3 : w3.heap[bo]? = some (.cells #[.slice a2 out'.length c2] 75 (0, 0)) := (hgrow3.block bo (by have := lt_of_heap HV.out.2.2.1; simp; omega) (by rw [HV.out.2.2.2.1]; intro hh; exact (HR.out.2.2.2.2.2.2.g bo hh.symm).2.1 rfl)).trans ((heap_alloc_far (show bo < w2.drew.heap.size from lt_of_heap (w := w2) HV.out.2.2.1)).trans HV.out.2.2.1)
        have cb3 : w3.cell? ⟨bo, 0, none⟩ = some (.slice a2 out'.length c2) := cell_of_heap hb3 rfl
        have fb3 : w3.frozen? ⟨bo, 0, none⟩ = false := free_of_heap hb3
        have HPT := Lib.hid hpt
        clear hown3 hgrow3 hat3 hpt hb3
        refine hK.out _ _ ?_; clear hK; clear K
        (try simp only [Act.put, List.setIfInBounds_toArray, List.set_cons_zero, List.set_cons_succ])
        refine seq_do (fun K hK => ?_)
        go_simp
        refine hK.out _ _ ?_; clear hK; clear K
        (try simp only [Act.put, List.setIfInBounds_toArray, List.set_cons_zero, List.set_cons_succ])
        refine seq_nil ?_
        clear hS hS1 hS2 hbd hka cb3 fb3
        go_wp2_with fail
        go_roundw
        case rel =>
          refine ⟨k + 1, by omega, by go_num, some gg, out' ++ [lowN cc], i2, e2, HPT.out.1, HPT.out.2.1, ?_, ?_, HR.out.2.2.2.2.2.1⟩
          · refine (HR.out.2.2.1.trans HV.out.1.2 (fun x hx _ => by simp [footN]; simp at hx; simp [hx])).trans HPT.out.2.2.1 (fun x hx hl => ?_)
            simp [footN] at hx ⊢
            rcases hx with hx | hx | hx | hx
            · exact .inl hx
            · exact .inr (.inl hx)
            · exact .inr (.inr (.inl hx))
            · rcases HR.out.2.2.2.1 x hx with h | h
              · exact .inr (.inr (.inr h))
              · omega
          · intro g hg
            rcases HPT.out.2.2.2 g hg with h | h
            · exact HR.out.2.2.2.1 g h
            · right
              have := HR.out.2.2.1.size
              have := HV.out.1.2.size
              omega
        case measure => simp [intOf]; omega
    · have hkn : k = n := by omega
      subst hkn
      have HR := Lib.hid (And.intro hnb (And.intro hrd (And.intro hkp (And.intro hgw hst))))
      clear hnb hrd hkp hgw hst cr
      go_wp2_with fail
      go_end0
      refine ⟨rfl, og', out', i', e', HR.out.1, HR.out.2.1, HR.out.2.2.1, HR.out.2.2.2.1, ?_⟩
      rcases HR.out.2.2.2.2.2 with ⟨he, hi', hg, ho⟩ | ⟨he, hg⟩
      · left; exact ⟨he, hi', by unfold labelOut; rw [if_neg HB.out, hg, ho, if_neg (by omega : ¬ count = 0)]; rfl⟩
      · right; exact ⟨he, by unfold labelOut; rw [if_neg HB.out, hg]; rfl⟩
end Go.Proofs.Sess
namespace Go.Proofs.Sess
open Go Go.RowKit

theorem label_any (w : World) (bl bo br rb : Nat) (og : Option Nat) (s : ByteArray) (i count : Nat) (out : List Nat) (n : Nat) (h : NameBox w bl bo br rb og count out) (hr : w.heap[rb]? = some (RdObj s i 0)) (hs : s.size < 1000000) (hi : i ≤ s.size) (hn : n ≤ 63) (hz : (count = 0 ∧ out = []) ∨ (1 ≤ count ∧ 1 ≤ out.length)) (hc : count ≤ 24) (ho : out.length ≤ 1000) :
    Calls Tryz.prog 107 #[.int .i64 (n : Int), .pointer (some ⟨bl, 0, none⟩), .pointer (some ⟨bo, 0, none⟩), .pointer (some ⟨br, 0, none⟩)] w (Labelled w bl bo br rb og s i count out n) := by
  rcases hz with ⟨rfl, rfl⟩ | ⟨h1, h2⟩
  · exact label_zero w bl bo br rb og s i n h hr hs hi hn
  · by_cases hb : 24 < count + 1 ∨ 253 < out.length + min out.length 1 + n
    · exact label_over w bl bo br rb og s i count out n h hr hn hc h1 h2 ho hb
    · exact label_more w bl bo br rb og s i count out n h hr hs hi hn h1 h2 hb

/-- What a label leaves is bounded. -/
theorem labelOut_some {s : ByteArray} {i count : Nat} {out o : List Nat} {n : Nat} (h : labelOut s i count out n = some o) (hn : 1 ≤ n) (hz : (count = 0 ∧ out = []) ∨ (1 ≤ count ∧ 1 ≤ out.length)) : count + 1 ≤ 24 ∧ i + n ≤ s.size ∧ 1 ≤ o.length ∧ o.length ≤ 253 ∧ o = (if count = 0 then out else out ++ [46]) ++ (cut s i n).map lowN ∧ goodL s i n = true ∧ ¬ (24 < count + 1 ∨ 253 < out.length + min out.length 1 + n) := by
  unfold labelOut at h
  split at h
  · cases h
  · rename_i hb
    split at h
    · rename_i hg
      have hb' := hb
      simp only [Option.some.injEq] at h
      have hlen : o.length ≤ out.length + min out.length 1 + n ∧ n ≤ o.length := by
        rw [← h]
        by_cases hc : count = 0
        · rw [if_pos hc]; simp [cut]
        · rw [if_neg hc]; simp [cut]; omega
      have hin : i + n ≤ s.size := by unfold goodL at hg; simp at hg; exact hg.1
      exact ⟨by omega, hin, by omega, by omega, h.symm, hg, hb'⟩
    · cases h
end Go.Proofs.Sess
