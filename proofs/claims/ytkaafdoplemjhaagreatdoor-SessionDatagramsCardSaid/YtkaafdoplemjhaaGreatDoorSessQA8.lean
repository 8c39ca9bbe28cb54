/- A part of the proof that a session of datagrams answers as the reference (SessionDatagrams). Its contents: contracts of functions of the program, each stated with its premises. -/
import Derived.Test.YtkaafdoplemjhaaGreatDoorSessQA7
import Derived.Lib.BufferRead
import Derived.Test.YtkaafdoplemjhaaGreatDoorSessQA2
namespace Go.Proofs.Sess
open Go Go.RowKit

/-- Bytes as a string. -/
def strN (l : List Nat) : ByteArray := ⟨(l.map UInt8.ofNat).toArray⟩
theorem strN_size (l : List Nat) : (strN l).size = l.length := by simp [strN, ByteArray.size]
theorem strN_cells {l : List Nat} (h : ∀ x ∈ l, x < 256) : Lib.strCells (strN l) = bytesV l := by
  unfold Lib.strCells strN bytesV
  simp only [List.map_map]
  refine List.map_congr_left fun x hx => ?_
  have := h x hx
  simp [Nat.mod_eq_of_lt this]

theorem box_convert {w : World} {a : Option Addr} {c : Nat} {out : List Nat} (h : w.ownsRow 0 5 1 (.slice a out.length c) out.length (bytesV out)) (hb : ∀ x ∈ out, x < 256) : (convert 75 9 (.slice a out.length c)).run Tryz.prog w = .ok (.string (strN out)) w := by
  rcases h.2 with ⟨hv, hn⟩ | ⟨g, cap, cur, hv, _⟩
  · have ho : out = [] := List.length_eq_zero_iff.1 hn
    subst ho
    simp at hv
    obtain ⟨rfl, rfl⟩ := hv
    exact Lib.run_convert_nil_bytes w 75 9 5 0 Tryz.underlying75 Tryz.underlying5 Tryz.underlying9
  · cases hv
    have hz := strN_size out
    rw [← strN_cells hb] at h
    have h' : w.ownsRow 0 5 1 (.slice (some ⟨g, 0, none⟩) out.length c) (strN out).size (Lib.strCells (strN out)) := by rw [hz]; exact h
    have := Lib.run_convert_whole w 75 5 9 Tryz.underlying75 Tryz.underlying5 Tryz.underlying9 g 0 (strN out) (bytes_of_own h') c
    rw [hz] at this
    exact this
end Go.Proofs.Sess
namespace Go.Proofs.Sess
open Go Go.RowKit

theorem nameP_short {s : ByteArray} {at_ lim jumps count : Nat} {out : List Nat} {en : Option Nat} (h : s.size ≤ at_) : nameP s at_ lim jumps count out en = none := by
  unfold nameP; rw [dif_pos h]
theorem nameP_zero {s : ByteArray} {at_ lim jumps count : Nat} {out : List Nat} {en : Option Nat} (h : at_ < s.size) (hn : byt s at_ = 0) : nameP s at_ lim jumps count out en = some (out, en.getD (at_ + 1)) := by
  unfold nameP; rw [dif_neg (by omega)]; simp only [hn]; rfl
theorem nameP_label {s : ByteArray} {at_ lim jumps count : Nat} {out : List Nat} {en : Option Nat} (h : at_ < s.size) (hn : byt s at_ ≠ 0) (h63 : byt s at_ ≤ 63) :
    nameP s at_ lim jumps count out en = match labelOut s (at_ + 1) count out (byt s at_) with | none => none | some o => nameP s (at_ + 1 + byt s at_) lim jumps (count + 1) o en := by
  rw [nameP, dif_neg (by omega)]
  simp only
  rw [if_neg hn, if_pos h63]
  unfold labelOut
  by_cases hb : 24 < count + 1 ∨ 253 < out.length + min out.length 1 + byt s at_
  · rw [if_pos hb, if_pos hb]
  · rw [if_neg hb, if_neg hb]
    by_cases hg : goodL s (at_ + 1) (byt s at_) = true
    · rw [if_pos hg, if_pos hg]
    · rw [if_neg hg, if_neg hg]
theorem nameP_mid {s : ByteArray} {at_ lim jumps count : Nat} {out : List Nat} {en : Option Nat} (h : at_ < s.size) (h63 : 63 < byt s at_) (h192 : byt s at_ < 192) : nameP s at_ lim jumps count out en = none := by
  rw [nameP, dif_neg (by omega)]
  simp only
  rw [if_neg (by omega), if_neg (by omega), if_pos h192]
theorem nameP_cut {s : ByteArray} {at_ lim jumps count : Nat} {out : List Nat} {en : Option Nat} (h : at_ < s.size) (h192 : 192 ≤ byt s at_) (h1 : s.size ≤ at_ + 1) : nameP s at_ lim jumps count out en = none := by
  rw [nameP, dif_neg (by omega)]
  simp only
  rw [if_neg (by omega), if_neg (by omega), if_neg (by omega), if_pos h1]
theorem nameP_bad {s : ByteArray} {at_ lim jumps count : Nat} {out : List Nat} {en : Option Nat} (h : at_ < s.size) (h192 : 192 ≤ byt s at_) (hb : lim ≤ byt s at_ % 64 * 256 + byt s (at_ + 1) ∨ 24 < jumps + 1) : nameP s at_ lim jumps count out en = none := by
  rw [nameP, dif_neg (by omega)]
  simp only
  rw [if_neg (by omega), if_neg (by omega), if_neg (by omega)]
  by_cases h1 : s.size ≤ at_ + 1
  · rw [if_pos h1]
  · rw [if_neg h1, dif_pos hb]
theorem nameP_jump {s : ByteArray} {at_ lim jumps count : Nat} {out : List Nat} {en : Option Nat} (h : at_ + 1 < s.size) (h192 : 192 ≤ byt s at_) (hb : ¬ (lim ≤ byt s at_ % 64 * 256 + byt s (at_ + 1) ∨ 24 < jumps + 1)) :
    nameP s at_ lim jumps count out en = nameP s (byt s at_ % 64 * 256 + byt s (at_ + 1)) (byt s at_ % 64 * 256 + byt s (at_ + 1)) (jumps + 1) count out (some (en.getD (at_ + 2))) := by
  rw [nameP, dif_neg (by omega)]
  simp only
  rw [if_neg (by omega), if_neg (by omega), if_neg (by omega), if_neg (by omega), dif_neg hb]

/-- Where the name ends, as the program keeps it. -/
def enI : Option Nat → Int
  | none => -1
  | some x => (x : Int)

/-- The state of name's loop. R: what is owed. -/
def NRel (w : World) (rb bl bo br : Nat) (s : ByteArray) (R : Option (List Nat × Nat)) (jumps lim : Nat) (en : Option Nat) (wr : World) : Prop :=
  ∃ og out at_ e_ count, NameBox wr bl bo br rb og count out ∧ wr.heap[rb]? = some (RdObj s at_ e_) ∧ Keeps [rb] w wr ∧ (∀ g, og = some g → w.heap.size ≤ g) ∧
    ((e_ = 0 ∧ nameP s at_ lim jumps count out en = R ∧ at_ ≤ s.size ∧ ((count = 0 ∧ out = []) ∨ (1 ≤ count ∧ 1 ≤ out.length)) ∧ count ≤ 24 ∧ out.length ≤ 253 ∧ jumps ≤ 24 ∧ lim ≤ s.size ∧ (∀ x ∈ out, x < 256)) ∨ (e_ ≠ 0 ∧ R = none))

/-- What name gives. -/
def Named (w : World) (rb : Nat) (s : ByteArray) (R : Option (List Nat × Nat)) (en : Ending) (w' : World) : Prop :=
  Keeps [rb] w w' ∧ ((∃ nm j, R = some (nm, j) ∧ (∀ x ∈ nm, x < 256) ∧ en = .returned (.string (strN nm)) ∧ w'.heap[rb]? = some (RdObj s j 0)) ∨ (R = none ∧ ∃ v i' e', en = .returned (.string v) ∧ w'.heap[rb]? = some (RdObj s i' e') ∧ e' ≠ 0 ∧ v.size ≤ 253))

/-- What is left of the loop. -/
def rdCell (w : World) (rb j : Nat) : Nat := match w.heap[rb]? with
  | some (.cells cs _ _) => (intOf (cs.getD j undef)).toNat
  | _ => 0
theorem rdCell_at {w : World} {rb : Nat} {s : ByteArray} {i e : Nat} (h : w.heap[rb]? = some (RdObj s i e)) : rdCell w rb 1 = i ∧ rdCell w rb 2 = e := by
  unfold rdCell
  rw [h]
  exact ⟨by simp [RdObj, intOf], by simp [RdObj, intOf]⟩
def nameM (s : ByteArray) (rb : Nat) (l : Value) (wr : World) : Nat := if rdCell wr rb 2 = 0 then 1 + (intOf l).toNat * (s.size + 1) + (s.size - rdCell wr rb 1) else 0
theorem nameM_err {s : ByteArray} {rb : Nat} {l : Value} {wr : World} {i e : Nat} (h : wr.heap[rb]? = some (RdObj s i e)) (he : e ≠ 0) : nameM s rb l wr = 0 := by
  unfold nameM; rw [(rdCell_at h).2, if_neg he]
theorem nameM_ok {s : ByteArray} {rb : Nat} {lim : Nat} {wr : World} {i : Nat} (h : wr.heap[rb]? = some (RdObj s i 0)) : nameM s rb (.int .i64 (lim : Int)) wr = 1 + lim * (s.size + 1) + (s.size - i) := by
  unfold nameM; rw [(rdCell_at h).2, if_pos rfl, (rdCell_at h).1]; simp [intOf]
theorem name_less {S lim tt i : Nat} (h : tt < lim) : tt * (S + 1) + (S - tt) < lim * (S + 1) + (S - i) := by
  have : (tt + 1) * (S + 1) ≤ lim * (S + 1) := Nat.mul_le_mul_right _ h
  have : (tt + 1) * (S + 1) = tt * (S + 1) + (S + 1) := by rw [Nat.add_mul, Nat.one_mul]
  omega

theorem and_63 (n : Nat) (hn : n < 256) : bits .and .i64 (n : Int) 63 = ((n % 64 : Nat) : Int) := by
  have h1 : (BitVec.ofInt 64 (n : Int)).toNat = n := by
    rw [BitVec.ofInt_natCast, BitVec.toNat_ofNat]; exact Nat.mod_eq_of_lt (by omega)
  have h2 : (BitVec.ofInt 64 (63 : Int)).toNat = 63 := by decide
  show IntKind.i64.wrap ((BitVec.ofInt 64 (n : Int) &&& BitVec.ofInt 64 (63 : Int)).toNat : Int) = _
  rw [BitVec.toNat_and, h1, h2, show (63 : Nat) = 2 ^ 6 - 1 from rfl, Nat.and_two_pow_sub_one_eq_mod, IntKind.wrap_i64]
  omega
end Go.Proofs.Sess
namespace Go.Proofs.Sess
open Go Go.RowKit

set_option maxRecDepth 100000 in
set_option maxHeartbeats 16000000 in
theorem name_any (w : World) (rb : Nat) (s : ByteArray) (i : Nat) (hr : w.heap[rb]? = some (RdObj s i 0)) (hs : s.size < 1000000) (hi : i ≤ s.size) :
    Calls Tryz.prog 83 #[.pointer (some ⟨rb, 0, none⟩)] w (Named w rb s (nameP s i i 0 0 [] none)) := by
  have hbl := lt_of_heap hr
  have k1 : Keeps [] w ((w.alloc (.cells #[.pointer (some ⟨rb, 0, none⟩)] 165)).alloc (.cells #[.slice none 0 0] 75)).drew := (((Keeps.refl _ _).alloc _).alloc _).drew
  have hb1 : ((w.alloc (.cells #[.pointer (some ⟨rb, 0, none⟩)] 165)).alloc (.cells #[.slice none 0 0] 75)).drew.heap[w.heap.size]? = some (.cells #[.pointer (some ⟨rb, 0, none⟩)] 165 (0, 0)) := (heap_alloc_far (by simp)).trans heap_alloc_self
  have cb1 : ((w.alloc (.cells #[.pointer (some ⟨rb, 0, none⟩)] 165)).alloc (.cells #[.slice none 0 0] 75)).drew.cell? ⟨w.heap.size, 0, none⟩ = some (.pointer (some ⟨rb, 0, none⟩)) := cell_of_heap hb1 rfl
  have cr1 : ((w.alloc (.cells #[.pointer (some ⟨rb, 0, none⟩)] 165)).alloc (.cells #[.slice none 0 0] 75)).drew.cell? ⟨rb, 1, none⟩ = some (.int .i64 (i : Int)) := cell_of_heap (k1.heap hr (by simp)) rfl
  have k2 : Keeps [rb] w (((w.alloc (.cells #[.pointer (some ⟨rb, 0, none⟩)] 165)).alloc (.cells #[.slice none 0 0] 75)).alloc (.cells #[.int .i64 0] 3)).drew := ((((Keeps.refl _ _).alloc _).alloc _).alloc _).drew
  have n1 : (((w.alloc (.cells #[.pointer (some ⟨rb, 0, none⟩)] 165)).alloc (.cells #[.slice none 0 0] 75)).alloc (.cells #[.int .i64 0] 3)).drew.heap[w.heap.size]? = some (.cells #[.pointer (some ⟨rb, 0, none⟩)] 165 (0, 0)) := (heap_alloc_far (by simp; omega)).trans ((heap_alloc_far (by simp)).trans heap_alloc_self)
  have n2 : (((w.alloc (.cells #[.pointer (some ⟨rb, 0, none⟩)] 165)).alloc (.cells #[.slice none 0 0] 75)).alloc (.cells #[.int .i64 0] 3)).drew.heap[w.heap.size + 1]? = some (.cells #[.slice none 0 0] 75 (0, 0)) := (heap_alloc_far (by simp)).trans (by
    have := heap_alloc_self (w := w.alloc (.cells #[.pointer (some ⟨rb, 0, none⟩)] 165)) (o := .cells #[.slice none 0 0] 75)
    rw [show (w.alloc (.cells #[.pointer (some ⟨rb, 0, none⟩)] 165)).heap.size = w.heap.size + 1 by simp] at this
    exact this)
  have n3 : (((w.alloc (.cells #[.pointer (some ⟨rb, 0, none⟩)] 165)).alloc (.cells #[.slice none 0 0] 75)).alloc (.cells #[.int .i64 0] 3)).drew.heap[w.heap.size + 1 + 1]? = some (.cells #[.int .i64 ((0 : Nat) : Int)] 3 (0, 0)) := by
    have := heap_alloc_self (w := (w.alloc (.cells #[.pointer (some ⟨rb, 0, none⟩)] 165)).alloc (.cells #[.slice none 0 0] 75)) (o := .cells #[.int .i64 0] 3)
    rw [show ((w.alloc (.cells #[.pointer (some ⟨rb, 0, none⟩)] 165)).alloc (.cells #[.slice none 0 0] 75)).heap.size = w.heap.size + 1 + 1 by simp] at this
    exact this
  have nd : (((w.alloc (.cells #[.pointer (some ⟨rb, 0, none⟩)] 165)).alloc (.cells #[.slice none 0 0] 75)).alloc (.cells #[.int .i64 0] 3)).drew.heap[rb]? = some (RdObj s i 0) := ((((((Keeps.refl [] w).alloc _).alloc _).alloc _).drew).heap hr (by simp))
  have hrel : NRel w rb (w.heap.size + 1 + 1) (w.heap.size + 1) w.heap.size s (nameP s i i 0 0 [] none) 0 i none (((w.alloc (.cells #[.pointer (some ⟨rb, 0, none⟩)] 165)).alloc (.cells #[.slice none 0 0] 75)).alloc (.cells #[.int .i64 0] 3)).drew :=
    ⟨none, [], i, 0, 0, ⟨n3, ⟨_, n2, rfl, World.ownsRow_nil _ _ _ _⟩, n1⟩, nd, k2, by simp, .inl ⟨rfl, rfl, hi, .inl ⟨rfl, rfl⟩, by omega, by simp, by omega, hi, by simp⟩⟩
  have H0 := Lib.hid hrel
  clear hb1 hr k1 k2 n1 n2 n3 nd hrel
  go_enter Tryz.func83, Tryz.ntmps83
  go_upto_region 2 with fail
  have hS : (fun wx : World => wx.cell? ⟨w.heap.size, 0, none⟩ = some (.pointer (some ⟨rb, 0, none⟩)) ∧ wx.cell? ⟨rb, 1, none⟩ = some (.int .i64 (i : Int))) ((w.alloc (.cells #[.pointer (some ⟨rb, 0, none⟩)] 165)).alloc (.cells #[.slice none 0 0] 75)).drew := ⟨cb1, cr1⟩
  refine wp_region_seq (fun wx : World => wx.cell? ⟨w.heap.size, 0, none⟩ = some (.pointer (some ⟨rb, 0, none⟩)) ∧ wx.cell? ⟨rb, 1, none⟩ = some (.int .i64 (i : Int)))
    [(0, 1), (1, 0), (2, 0), (3, 1), (4, 2), (5, 2), (6, 0), (7, 0), (8, 0)]
    [] (by kernel_rfl) (by kernel_rfl) (fun d _ _ _ _ h => by cases d <;> exact h) ?_
  simp only [picks, List.getD_cons_succ, List.getD_cons_zero]
  (refine seq_read (v := ?_) hS (by rfl) ?_ ?_; rotate_left; focus (intro wq hSq; obtain ⟨hq1, hq2⟩ := hSq; first | (go_simp; done) | (go_simp; with_reducible rfl))); (try simp only [Act.put, List.setIfInBounds_toArray, List.set_cons_zero, List.set_cons_succ])
  (refine seq_pure (v := ?_) (by rfl) ?_ ?_; rotate_left; focus (intro wq; first | (go_simp; done) | (go_simp; with_reducible rfl))); (try simp only [Act.put, List.setIfInBounds_toArray, List.set_cons_zero, List.set_cons_succ])
  (refine seq_pure (v := ?_) (by rfl) ?_ ?_; rotate_left; focus (intro wq; first | (go_simp; done) | (go_simp; with_reducible rfl))); (try simp only [Act.put, List.setIfInBounds_toArray, List.set_cons_zero, List.set_cons_succ])
  (refine seq_read (v := ?_) hS (by rfl) ?_ ?_; rotate_left; focus (intro wq hSq; obtain ⟨hq1, hq2⟩ := hSq; first | (go_simp; done) | (go_simp; with_reducible rfl))); (try simp only [Act.put, List.setIfInBounds_toArray, List.set_cons_zero, List.set_cons_succ])
  refine seq_act (fun K hK => ?_)
  go_simp
  refine hK.out _ _ (by exact ⟨((Keeps.refl [] _).drew.alloc _).cell (w := (w.alloc (.cells #[.pointer (some ⟨rb, 0, none⟩)] 165)).alloc (.cells #[.slice none 0 0] 75)) cb1 (by simp), ((Keeps.refl [] _).drew.alloc _).cell (w := (w.alloc (.cells #[.pointer (some ⟨rb, 0, none⟩)] 165)).alloc (.cells #[.slice none 0 0] 75)) cr1 (by simp)⟩) ?_; clear hK; clear K
  (try simp only [Act.put, List.setIfInBounds_toArray, List.set_cons_zero, List.set_cons_succ])
  refine seq_act (fun K hK => ?_)
  go_simp
  refine hK.out _ _ (by exact ⟨((Keeps.refl [] _).drew.alloc _).cell (w := (w.alloc (.cells #[.pointer (some ⟨rb, 0, none⟩)] 165)).alloc (.cells #[.slice none 0 0] 75)) cb1 (by simp), ((Keeps.refl [] _).drew.alloc _).cell (w := (w.alloc (.cells #[.pointer (some ⟨rb, 0, none⟩)] 165)).alloc (.cells #[.slice none 0 0] 75)) cr1 (by simp)⟩) ?_; clear hK; clear K
  (try simp only [Act.put, List.setIfInBounds_toArray, List.set_cons_zero, List.set_cons_succ])
  (refine seq_pure (v := ?_) (by rfl) ?_ ?_; rotate_left; focus (intro wq; first | (go_simp; done) | (go_simp; with_reducible rfl))); (try simp only [Act.put, List.setIfInBounds_toArray, List.set_cons_zero, List.set_cons_succ])
  (refine seq_pure (v := ?_) (by rfl) ?_ ?_; rotate_left; focus (intro wq; first | (go_simp; done) | (go_simp; with_reducible rfl))); (try simp only [Act.put, List.setIfInBounds_toArray, List.set_cons_zero, List.set_cons_succ])
  (refine seq_pure (v := ?_) (by rfl) ?_ ?_; rotate_left; focus (intro wq; first | (go_simp; done) | (go_simp; with_reducible rfl))); (try simp only [Act.put, List.setIfInBounds_toArray, List.set_cons_zero, List.set_cons_succ])
  refine seq_nil ?_
  clear hS cb1 cr1
  go_wp2_with fail
  revert H0
  generalize (((w.alloc (.cells #[.pointer (some ⟨rb, 0, none⟩)] 165)).alloc (.cells #[.slice none 0 0] 75)).alloc (.cells #[.int .i64 0] 3)).drew = W0
  intro H0
  generalize hbr : w.heap.size = br at *
  generalize hbo : br + 1 = bo at *
  generalize hbll : bo + 1 = bl at *
  have HSZ := Lib.hid (And.intro hbr (And.intro hbo hbll))
  clear hbr hbo hbll
  generalize hR : nameP s i i 0 0 [] none = R at *
  clear hR
  have hie : (-1 : Int) = enI none := rfl
  go_loopw [5, 6, 7] (fun j l e wr => ∃ (jumps lim : Nat) (en : Option Nat), j = .int .i64 jumps ∧ l = .int .i64 lim ∧ e = .int .i64 (enI en) ∧ NRel w rb bl bo br s R jumps lim en wr) (fun _ l _ wr => nameM s rb l wr)
  case atStart => exact ⟨0, i, none, rfl, rfl, rfl, H0.out⟩
  case round =>
    obtain ⟨jumps, lim, en, rfl, rfl, rfl, hrel⟩ := hrel
    obtain ⟨og, out, at_, e_, count, hnb, hrd, hkp, hgw, hst⟩ := hrel
    clear hie
    have hap := hnb.apart hrd
    have cr : wr.cell? ⟨br, 0, none⟩ = some (.pointer (some ⟨rb, 0, none⟩)) := cell_of_heap hnb.r rfl
    have c2 : wr.cell? ⟨rb, 2, none⟩ = some (.int .i64 (e_ : Int)) := cell_of_heap hrd rfl
    by_cases he : e_ = 0
    · subst he
      have hst : nameP s at_ lim jumps count out en = R ∧ at_ ≤ s.size ∧ ((count = 0 ∧ out = []) ∨ (1 ≤ count ∧ 1 ≤ out.length)) ∧ count ≤ 24 ∧ out.length ≤ 253 ∧ jumps ≤ 24 ∧ lim ≤ s.size ∧ (∀ x ∈ out, x < 256) := by
        rcases hst with ⟨_, h⟩ | ⟨h, _⟩
        · exact h
        · exact absurd rfl h
      by_cases hat : at_ < s.size
      · have hnx := next_yes wr rb s at_ hrd hat hs
        have hbl := byt_lt s at_
        generalize hn : byt s at_ = n at *
        have HN := Lib.hid hnx
        have HR := Lib.hid (And.intro hnb (And.intro hrd (And.intro hkp (And.intro hgw hst))))
        have HP := Lib.hid hap
        have HNE := Lib.hid hn
        clear hnx hnb hrd hkp hgw hst hap hn 
        go_upto_region 13 with (go_at_call 106; refine HN.out.mono ?_; rintro e w2 ⟨rfl, h2, k2⟩
                                have hnb2 := HR.out.1.keep k2 (by simpa using HP.out.lb) (by simpa using HP.out.ob) (by simpa using HP.out.rb_) (fun g hg => by simpa using (HP.out.g g hg).2.2.2)
                                have cr2 : w2.cell? ⟨br, 0, none⟩ = some (.pointer (some ⟨rb, 0, none⟩)) := cell_of_heap hnb2.r rfl
                                have c22 : w2.cell? ⟨rb, 2, none⟩ = some (.int .i64 0) := cell_of_heap h2 rfl
                                have c12 : w2.cell? ⟨rb, 1, none⟩ = some (.int .i64 ((at_ + 1 : Nat) : Int)) := cell_of_heap h2 rfl
                                have f12 : w2.frozen? ⟨rb, 1, none⟩ = false := free_of_heap h2
                                have H2 := Lib.hid (And.intro hnb2 (And.intro h2 (HR.out.2.2.1.trans k2 (fun _ h _ => h))))
                                clear h2 k2 hnb2)
        have hbx := H2.out.1.slice
        by_cases hn0 : n = 0
        · subst hn0
          obtain ⟨a, c, hb2, ho2, hw2⟩ := hbx
          have hRz : R = some (out, en.getD (at_ + 1)) := by rw [← HR.out.2.2.2.2.1]; exact nameP_zero hat HNE.out
          have cbo : w2.cell? ⟨bo, 0, none⟩ = some (.slice a out.length c) := cell_of_heap hb2 rfl
          have hcv := box_convert hw2 HR.out.2.2.2.2.2.2.2.2.2.2.2
          cases en with
          | none =>
            have HZ := Lib.hid hRz
            clear hb2 ho2 hw2 hRz
            have hen : enI none = -1 := rfl
            rw [hen]
            clear hen
            go_wp2_with fail
            go_ret
            exact ⟨H2.out.2.2, .inl ⟨out, at_ + 1, HZ.out, HR.out.2.2.2.2.2.2.2.2.2.2.2, rfl, H2.out.2.1⟩⟩
          | some x =>
            have hk3 : Keeps [rb] w2 (w2.setCell ⟨rb, 1, none⟩ (.int .i64 (x : Int))) := (Keeps.refl _ _).setCell (by simp) _
            have hob := HP.out.ob
            have cbo3 : (w2.setCell ⟨rb, 1, none⟩ (.int .i64 (x : Int))).cell? ⟨bo, 0, none⟩ = some (.slice a out.length c) := hk3.cell cbo (by simpa using hob)
            have hcv3 := box_convert (hk3.own hw2 (fun g hg => by rw [ho2] at hg; simpa using (HP.out.g g hg).2.2.2)) HR.out.2.2.2.2.2.2.2.2.2.2.2
            have hd3 := rd_at H2.out.2.1 x
            have HZ := Lib.hid (And.intro hRz (And.intro hk3 hd3))
            clear hb2 ho2 hw2 hRz hk3 hd3 hcv hob
            have hen : enI (some x) = (x : Int) := rfl
            rw [hen]
            clear hen
            have hx0 : (0 : Int) ≤ (x : Int) := by omega
            go_wp2_with fail
            go_ret
            exact ⟨H2.out.2.2.trans HZ.out.2.1 (fun _ h _ => h), .inl ⟨out, x, HZ.out.1, HR.out.2.2.2.2.2.2.2.2.2.2.2, rfl, HZ.out.2.2⟩⟩
        · clear hbx
          have hn1 : (1 : Int) ≤ (n : Int) := by omega
          have hnz : ((n : Int) == 0) = false := by simpa using hn0
          by_cases h63 : n ≤ 63
          · have h63i : (n : Int) ≤ 63 := by omega
            have hla := label_any w2 bl bo br rb og s (at_ + 1) count out n H2.out.1 H2.out.2.1 hs (by omega) h63 HR.out.2.2.2.2.2.2.1 HR.out.2.2.2.2.2.2.2.1 (by have := HR.out.2.2.2.2.2.2.2.2.1; omega)
            have hml := nameM_ok (lim := lim) HR.out.2.1
            have HL := Lib.hid (And.intro hla hml)
            clear hla hml c12 f12
            go_wp2_with (go_at_call 107; refine HL.out.1.mono ?_; rintro e3 w3 ⟨rfl, og3, out3, i3, e3, q1, q2, q3, q4, q5⟩; have H3 := Lib.hid (And.intro q1 (And.intro q2 (And.intro q3 (And.intro q4 q5)))); clear q1 q2 q3 q4 q5)
            have hk3 : Keeps [rb] w w3 := H2.out.2.2.trans H3.out.2.2.1 (fun x hx hl => by
              simp [footN] at hx ⊢
              obtain ⟨z1, z2, z3⟩ := HSZ.out
              rcases hx with hx | hx | hx | hx
              · omega
              · omega
              · exact hx
              · have := HR.out.2.2.2.1 x hx; omega)
            have hg3 : ∀ g, og3 = some g → w.heap.size ≤ g := fun g hg => by
              rcases H3.out.2.2.2.1 g hg with h | h
              · exact HR.out.2.2.2.1 g h
              · have := H2.out.2.2.size; omega
            have HK := Lib.hid (And.intro hk3 hg3)
            clear hk3 hg3
            go_roundw
            case rel =>
              rcases H3.out.2.2.2.2 with ⟨rfl, rfl, hlo⟩ | ⟨he3, hlo⟩
              · have hls := labelOut_some hlo (by omega) HR.out.2.2.2.2.2.2.1
                have hby3 : ∀ x ∈ out3, x < 256 := by
                  rw [hls.2.2.2.2.1]
                  intro x hx
                  simp only [List.mem_append, List.mem_map] at hx
                  rcases hx with hx | ⟨y, hy, rfl⟩
                  · split at hx
                    · exact HR.out.2.2.2.2.2.2.2.2.2.2.2 x hx
                    · simp at hx
                      rcases hx with hx | hx
                      · exact HR.out.2.2.2.2.2.2.2.2.2.2.2 x hx
                      · omega
                  · refine lowN_lt ?_
                    unfold cut at hy
                    simp at hy
                    obtain ⟨z, _, rfl⟩ := hy
                    exact byt_lt _ _
                refine ⟨jumps, lim, en, rfl, rfl, rfl, og3, out3, at_ + 1 + n, 0, count + 1, H3.out.1, H3.out.2.1, HK.out.1, HK.out.2, .inl ⟨rfl, ?_, by omega, .inr ⟨by omega, by omega⟩, by omega, by omega, HR.out.2.2.2.2.2.2.2.2.2.1, HR.out.2.2.2.2.2.2.2.2.2.2.1, hby3⟩⟩
                rw [← HR.out.2.2.2.2.1, nameP_label hat (by rw [HNE.out]; omega) (by rw [HNE.out]; omega), HNE.out, hlo]
              · refine ⟨jumps, lim, en, rfl, rfl, rfl, og3, out3, i3, e3, count + 1, H3.out.1, H3.out.2.1, HK.out.1, HK.out.2, .inr ⟨he3, ?_⟩⟩
                rw [← HR.out.2.2.2.2.1, nameP_label hat (by rw [HNE.out]; omega) (by rw [HNE.out]; omega), HNE.out, hlo]
            case measure =>
              rcases H3.out.2.2.2.2 with ⟨rfl, rfl, hlo⟩ | ⟨he3, hlo⟩
              · rw [nameM_ok H3.out.2.1, HL.out.2]; omega
              · rw [nameM_err H3.out.2.1 he3, HL.out.2]; omega
          · by_cases h192 : n < 192
            · have h192i : (n : Int) < 192 := by omega
              have h63i : (63 : Int) < (n : Int) := by omega
              have hRn : R = none := by rw [← HR.out.2.2.2.2.1]; exact nameP_mid hat (by rw [HNE.out]; omega) (by rw [HNE.out]; omega)
              have hml := nameM_ok (lim := lim) HR.out.2.1
              have HL := Lib.hid (And.intro hRn hml)
              clear hRn hml c12 f12
              go_wp2_with (go_at_call 108; have hf := fail_any w2 rb s (at_ + 1) 0 2 H2.out.2.1; refine hf.mono ?_; rintro e3 w3 ⟨rfl, h3, k3⟩
                           have hnb3 := H2.out.1.keep k3 (by simpa using HP.out.lb) (by simpa using HP.out.ob) (by simpa using HP.out.rb_) (fun g hg => by simpa using (HP.out.g g hg).2.2.2)
                           have H3 := Lib.hid (And.intro hnb3 (And.intro h3 (H2.out.2.2.trans k3 (fun _ h _ => h))))
                           clear h3 k3 hnb3 hf)
              go_roundw
              case rel => exact ⟨jumps, lim, en, rfl, rfl, rfl, og, out, at_ + 1, 2, count, H3.out.1, H3.out.2.1, H3.out.2.2, HR.out.2.2.2.1, .inr ⟨by decide, HL.out.1⟩⟩
              case measure => rw [nameM_err H3.out.2.1 (by decide), HL.out.2]; omega
            · have h192i : (192 : Int) ≤ (n : Int) := by omega
              have hand : bits .and .i64 (n : Int) 63 = (n : Int) % 64 := by rw [and_63 n hbl]; omega
              have hNX := next_any w2 rb s (at_ + 1) 0 H2.out.2.1 hs
              have hcl : (nxt s (at_ + 1) 0).1 < 256 := nxt_lt s (at_ + 1) 0
              have hnx0 : (nxt s (at_ + 1) 0).2.2 = 0 → at_ + 1 < s.size ∧ (nxt s (at_ + 1) 0).1 = byt s (at_ + 1) ∧ (nxt s (at_ + 1) 0).2.1 = at_ + 2 := by
                unfold nxt
                rw [if_pos rfl]
                by_cases h : at_ + 1 < s.size
                · rw [if_pos h]; intro _; exact ⟨h, rfl, rfl⟩
                · rw [if_neg h]; intro h; cases h
              have hnx1 : (nxt s (at_ + 1) 0).2.2 ≠ 0 → s.size ≤ at_ + 1 := by
                unfold nxt
                rw [if_pos rfl]
                by_cases h : at_ + 1 < s.size
                · rw [if_pos h]; intro h; exact absurd rfl h
                · intro _; omega
              revert hNX hcl hnx0 hnx1
              generalize nxt s (at_ + 1) 0 = p
              obtain ⟨cc, i2, e2⟩ := p
              dsimp only
              intro hNX hcl hnx0 hnx1
              have hor : bits .or .i64 ((n : Int) % 64 * 256) (cc : Int) = ((n % 64 * 256 + cc : Nat) : Int) := by rw [show ((n : Int) % 64) = ((n % 64 : Nat) : Int) by omega]; exact or_byte (n % 64) cc (by omega) hcl
              have hto0 : 0 ≤ ((n % 64 * 256 + cc : Nat) : Int) := by omega
              have hml := nameM_ok (lim := lim) HR.out.2.1
              have HN2 := Lib.hid hNX
              have HX := Lib.hid (And.intro hnx0 (And.intro hnx1 hml))
              have hj24 : (jumps : Int) ≤ 24 := by have := HR.out.2.2.2.2.2.2.2.2.2.1; omega
              have hm64 : (n : Int) % 64 ≤ 63 := by omega
              have hm0 : (0 : Int) ≤ (n : Int) % 64 := by omega
              have hcc : (cc : Int) ≤ 255 := by omega
              clear hNX hnx0 hnx1 hml c12 f12
              generalize hto : n % 64 * 256 + cc = tt at *
              have HTO := Lib.hid hto
              clear hto
              cases en with
              | none =>
                have hen : enI none = -1 := rfl
                rw [hen]
                clear hen
                by_cases hb : lim ≤ tt
                · have hbi : (lim : Int) ≤ (tt : Int) := by omega
                  go_upto_region 12 with (first
                    | (go_at_call 106; refine HN2.out.mono ?_; rintro e w3 ⟨rfl, h3, k3⟩
                       have hnb3 := H2.out.1.keep k3 (by simpa using HP.out.lb) (by simpa using HP.out.ob) (by simpa using HP.out.rb_) (fun g hg => by simpa using (HP.out.g g hg).2.2.2)
                       have cr3 : w3.cell? ⟨br, 0, none⟩ = some (.pointer (some ⟨rb, 0, none⟩)) := cell_of_heap hnb3.r rfl
                       have c13 : w3.cell? ⟨rb, 1, none⟩ = some (.int .i64 (i2 : Int)) := cell_of_heap h3 rfl
                       have f13 : w3.frozen? ⟨rb, 1, none⟩ = false := free_of_heap h3
                       have H3 := Lib.hid (And.intro hnb3 (And.intro h3 (H2.out.2.2.trans k3 (fun _ h _ => h))))
                       clear h3 k3 hnb3)
                    | (go_at_call 108; have hf := fail_any w3 rb s i2 e2 2 H3.out.2.1; rw [failE] at hf; refine hf.mono ?_; rintro e4 w4 ⟨rfl, h4, k4⟩
                       have hnb4 := H3.out.1.keep k4 (by simpa using HP.out.lb) (by simpa using HP.out.ob) (by simpa using HP.out.rb_) (fun g hg => by simpa using (HP.out.g g hg).2.2.2)
                       have cr4 : w4.drew.cell? ⟨br, 0, none⟩ = some (.pointer (some ⟨rb, 0, none⟩)) := cell_of_heap (w := w4) hnb4.r rfl
                       have c14 : w4.drew.cell? ⟨rb, 1, none⟩ = some (.int .i64 (i2 : Int)) := cell_of_heap (w := w4) h4 rfl
                       have f14 : w4.drew.frozen? ⟨rb, 1, none⟩ = false := free_of_heap (w := w4) h4
                       have H4 := Lib.hid (And.intro hnb4 (And.intro h4 (H3.out.2.2.trans k4 (fun _ h _ => h))))
                       clear h4 k4 hnb4 hf))
                  have hS : (fun wx : World => wx.cell? ⟨br, 0, none⟩ = some (.pointer (some ⟨rb, 0, none⟩))) w4.drew := cr4
                  refine wp_region_seq (fun wx : World => wx.cell? ⟨br, 0, none⟩ = some (.pointer (some ⟨rb, 0, none⟩)))
                    [(0, 1), (1, 0), (2, 0), (3, 0), (4, 0), (5, 0), (6, 3)]
                    [[6, 0]] (by kernel_rfl) (by kernel_rfl) (fun d _ _ _ _ h => by cases d <;> exact h) ?_
                  simp only [picks, List.getD_cons_succ, List.getD_cons_zero]
                  (refine seq_read (v := ?_) hS (by rfl) ?_ ?_; rotate_left; focus (intro wq hSq; obtain hq1 := hSq; first | (go_simp; done) | (go_simp; with_reducible rfl))); (try simp only [Act.put, List.setIfInBounds_toArray, List.set_cons_zero, List.set_cons_succ])
                  (refine seq_pure (v := ?_) (by rfl) ?_ ?_; rotate_left; focus (intro wq; first | (go_simp; done) | (go_simp; with_reducible rfl))); (try simp only [Act.put, List.setIfInBounds_toArray, List.set_cons_zero, List.set_cons_succ])
                  (refine seq_pure (v := ?_) (by rfl) ?_ ?_; rotate_left; focus (intro wq; first | (go_simp; done) | (go_simp; with_reducible rfl))); (try simp only [Act.put, List.setIfInBounds_toArray, List.set_cons_zero, List.set_cons_succ])
                  (refine seq_pure (v := ?_) (by rfl) ?_ ?_; rotate_left; focus (intro wq; first | (go_simp; done) | (go_simp; with_reducible rfl))); (try simp only [Act.put, List.setIfInBounds_toArray, List.set_cons_zero, List.set_cons_succ])
                  (refine seq_pure (v := ?_) (by rfl) ?_ ?_; rotate_left; focus (intro wq; first | (go_simp; done) | (go_simp; with_reducible rfl))); (try simp only [Act.put, List.setIfInBounds_toArray, List.set_cons_zero, List.set_cons_succ])
                  (refine seq_pure (v := ?_) (by rfl) ?_ ?_; rotate_left; focus (intro wq; first | (go_simp; done) | (go_simp; with_reducible rfl))); (try simp only [Act.put, List.setIfInBounds_toArray, List.set_cons_zero, List.set_cons_succ])
                  refine seq_do (fun K hK => ?_)
                  go_simp
                  refine hK.out _ _ ?_; clear hK; clear K
                  (try simp only [Act.put, List.setIfInBounds_toArray, List.set_cons_zero, List.set_cons_succ])
                  refine seq_nil ?_
                  clear hS
                  go_wp2_with fail
                  have hd5 := rd_at (w := w4.drew) H4.out.2.1 tt
                  have hk5 : Keeps [rb] w4 (w4.drew.setCell ⟨rb, 1, none⟩ (.int .i64 (tt : Int))) := (Keeps.refl _ _).drew.setCell (by simp) _
                  have hnb5 := H4.out.1.keep hk5 (by simpa using HP.out.lb) (by simpa using HP.out.ob) (by simpa using HP.out.rb_) (fun g hg => by simpa using (HP.out.g g hg).2.2.2)
                  have H5 := Lib.hid (And.intro hnb5 (And.intro hd5 (H4.out.2.2.trans hk5 (fun _ h _ => h))))
                  clear hd5 hk5 hnb5
                  go_roundw
                  case rel =>
                    have he4 : classE 0 e2 ≠ 0 := by unfold classE; rw [if_neg (by decide)]; split <;> omega
                    have hRn : R = none := by rw [← HR.out.2.2.2.2.1]; by_cases h1 : at_ + 1 < s.size
                                              · have he2 : e2 = 0 := by
                                                  by_cases h : e2 = 0
                                                  · exact h
                                                  · have := HX.out.2.1 h; omega
                                                exact nameP_bad hat (by rw [HNE.out]; omega) (by rw [HNE.out, ← (HX.out.1 he2).2.1, HTO.out]; omega)
                                              · exact nameP_cut hat (by rw [HNE.out]; omega) (by omega)
                    exact ⟨jumps + 1, tt, some (i2), by go_num, rfl, rfl, og, out, tt, classE 0 e2, count, H5.out.1, H5.out.2.1, H5.out.2.2, HR.out.2.2.2.1, .inr ⟨he4, hRn⟩⟩
                  case measure =>
                    have he4 : classE 0 e2 ≠ 0 := by unfold classE; rw [if_neg (by decide)]; split <;> omega
                    have h0 := nameM_err (l := .int .i64 (tt : Int)) H5.out.2.1 he4
                    have h1 := HX.out.2.2
                    refine Nat.lt_of_le_of_lt (Nat.le_of_eq h0) ?_
                    rw [h1]; omega
                · have hbi : (tt : Int) < (lim : Int) := by omega
                  by_cases hj : 24 < jumps + 1
                  · have hji : (24 : Int) < (jumps : Int) + 1 := by omega
                    go_upto_region 12 with (first
                      | (go_at_call 106; refine HN2.out.mono ?_; rintro e w3 ⟨rfl, h3, k3⟩
                         have hnb3 := H2.out.1.keep k3 (by simpa using HP.out.lb) (by simpa using HP.out.ob) (by simpa using HP.out.rb_) (fun g hg => by simpa using (HP.out.g g hg).2.2.2)
                         have cr3 : w3.cell? ⟨br, 0, none⟩ = some (.pointer (some ⟨rb, 0, none⟩)) := cell_of_heap hnb3.r rfl
                         have c13 : w3.cell? ⟨rb, 1, none⟩ = some (.int .i64 (i2 : Int)) := cell_of_heap h3 rfl
                         have f13 : w3.frozen? ⟨rb, 1, none⟩ = false := free_of_heap h3
                         have H3 := Lib.hid (And.intro hnb3 (And.intro h3 (H2.out.2.2.trans k3 (fun _ h _ => h))))
                         clear h3 k3 hnb3)
                      | (go_at_call 108; have hf := fail_any w3 rb s i2 e2 2 H3.out.2.1; rw [failE] at hf; refine hf.mono ?_; rintro e4 w4 ⟨rfl, h4, k4⟩
                         have hnb4 := H3.out.1.keep k4 (by simpa using HP.out.lb) (by simpa using HP.out.ob) (by simpa using HP.out.rb_) (fun g hg => by simpa using (HP.out.g g hg).2.2.2)
                         have cr4 : w4.drew.cell? ⟨br, 0, none⟩ = some (.pointer (some ⟨rb, 0, none⟩)) := cell_of_heap (w := w4) hnb4.r rfl
                         have c14 : w4.drew.cell? ⟨rb, 1, none⟩ = some (.int .i64 (i2 : Int)) := cell_of_heap (w := w4) h4 rfl
                         have f14 : w4.drew.frozen? ⟨rb, 1, none⟩ = false := free_of_heap (w := w4) h4
                         have H4 := Lib.hid (And.intro hnb4 (And.intro h4 (H3.out.2.2.trans k4 (fun _ h _ => h))))
                         clear h4 k4 hnb4 hf))
                    have hS : (fun wx : World => wx.cell? ⟨br, 0, none⟩ = some (.pointer (some ⟨rb, 0, none⟩))) w4.drew := cr4
                    refine wp_region_seq (fun wx : World => wx.cell? ⟨br, 0, none⟩ = some (.pointer (some ⟨rb, 0, none⟩)))
                      [(0, 1), (1, 0), (2, 0), (3, 0), (4, 0), (5, 0), (6, 3)]
                      [[6, 0]] (by kernel_rfl) (by kernel_rfl) (fun d _ _ _ _ h => by cases d <;> exact h) ?_
                    simp only [picks, List.getD_cons_succ, List.getD_cons_zero]
                    (refine seq_read (v := ?_) hS (by rfl) ?_ ?_; rotate_left; focus (intro wq hSq; obtain hq1 := hSq; first | (go_simp; done) | (go_simp; with_reducible rfl))); (try simp only [Act.put, List.setIfInBounds_toArray, List.set_cons_zero, List.set_cons_succ])
                    (refine seq_pure (v := ?_) (by rfl) ?_ ?_; rotate_left; focus (intro wq; first | (go_simp; done) | (go_simp; with_reducible rfl))); (try simp only [Act.put, List.setIfInBounds_toArray, List.set_cons_zero, List.set_cons_succ])
                    (refine seq_pure (v := ?_) (by rfl) ?_ ?_; rotate_left; focus (intro wq; first | (go_simp; done) | (go_simp; with_reducible rfl))); (try simp only [Act.put, List.setIfInBounds_toArray, List.set_cons_zero, List.set_cons_succ])
                    (refine seq_pure (v := ?_) (by rfl) ?_ ?_; rotate_left; focus (intro wq; first | (go_simp; done) | (go_simp; with_reducible rfl))); (try simp only [Act.put, List.setIfInBounds_toArray, List.set_cons_zero, List.set_cons_succ])
                    (refine seq_pure (v := ?_) (by rfl) ?_ ?_; rotate_left; focus (intro wq; first | (go_simp; done) | (go_simp; with_reducible rfl))); (try simp only [Act.put, List.setIfInBounds_toArray, List.set_cons_zero, List.set_cons_succ])
                    (refine seq_pure (v := ?_) (by rfl) ?_ ?_; rotate_left; focus (intro wq; first | (go_simp; done) | (go_simp; with_reducible rfl))); (try simp only [Act.put, List.setIfInBounds_toArray, List.set_cons_zero, List.set_cons_succ])
                    refine seq_do (fun K hK => ?_)
                    go_simp
                    refine hK.out _ _ ?_; clear hK; clear K
                    (try simp only [Act.put, List.setIfInBounds_toArray, List.set_cons_zero, List.set_cons_succ])
                    refine seq_nil ?_
                    clear hS
                    go_wp2_with fail
                    have hd5 := rd_at (w := w4.drew) H4.out.2.1 tt
                    have hk5 : Keeps [rb] w4 (w4.drew.setCell ⟨rb, 1, none⟩ (.int .i64 (tt : Int))) := (Keeps.refl _ _).drew.setCell (by simp) _
                    have hnb5 := H4.out.1.keep hk5 (by simpa using HP.out.lb) (by simpa using HP.out.ob) (by simpa using HP.out.rb_) (fun g hg => by simpa using (HP.out.g g hg).2.2.2)
                    have H5 := Lib.hid (And.intro hnb5 (And.intro hd5 (H4.out.2.2.trans hk5 (fun _ h _ => h))))
                    clear hd5 hk5 hnb5
                    go_roundw
                    case rel =>
                      have he4 : classE 0 e2 ≠ 0 := by unfold classE; rw [if_neg (by decide)]; split <;> omega
                      have hRn : R = none := by rw [← HR.out.2.2.2.2.1]; by_cases h1 : at_ + 1 < s.size
                                                · have he2 : e2 = 0 := by
                                                    by_cases h : e2 = 0
                                                    · exact h
                                                    · have := HX.out.2.1 h; omega
                                                  exact nameP_bad hat (by rw [HNE.out]; omega) (by rw [HNE.out, ← (HX.out.1 he2).2.1, HTO.out]; omega)
                                                · exact nameP_cut hat (by rw [HNE.out]; omega) (by omega)
                      exact ⟨jumps + 1, tt, some (i2), by go_num, rfl, rfl, og, out, tt, classE 0 e2, count, H5.out.1, H5.out.2.1, H5.out.2.2, HR.out.2.2.2.1, .inr ⟨he4, hRn⟩⟩
                    case measure =>
                      have he4 : classE 0 e2 ≠ 0 := by unfold classE; rw [if_neg (by decide)]; split <;> omega
                      have h0 := nameM_err (l := .int .i64 (tt : Int)) H5.out.2.1 he4
                      have h1 := HX.out.2.2
                      refine Nat.lt_of_le_of_lt (Nat.le_of_eq h0) ?_
                      rw [h1]; omega
                  · have hji : (jumps : Int) + 1 ≤ 24 := by omega
                    go_upto_region 12 with (first
                      | (go_at_call 106; refine HN2.out.mono ?_; rintro e w3 ⟨rfl, h3, k3⟩
                         have hnb3 := H2.out.1.keep k3 (by simpa using HP.out.lb) (by simpa using HP.out.ob) (by simpa using HP.out.rb_) (fun g hg => by simpa using (HP.out.g g hg).2.2.2)
                         have cr3 : w3.cell? ⟨br, 0, none⟩ = some (.pointer (some ⟨rb, 0, none⟩)) := cell_of_heap hnb3.r rfl
                         have c13 : w3.cell? ⟨rb, 1, none⟩ = some (.int .i64 (i2 : Int)) := cell_of_heap h3 rfl
                         have f13 : w3.frozen? ⟨rb, 1, none⟩ = false := free_of_heap h3
                         have H3 := Lib.hid (And.intro hnb3 (And.intro h3 (H2.out.2.2.trans k3 (fun _ h _ => h))))
                         clear h3 k3 hnb3)
                      | fail)
                    have cr3 : w3.drew.cell? ⟨br, 0, none⟩ = some (.pointer (some ⟨rb, 0, none⟩)) := cell_of_heap (w := w3) H3.out.1.r rfl
                    have c13 : w3.drew.cell? ⟨rb, 1, none⟩ = some (.int .i64 (i2 : Int)) := cell_of_heap (w := w3) H3.out.2.1 rfl
                    have f13 : w3.drew.frozen? ⟨rb, 1, none⟩ = false := free_of_heap (w := w3) H3.out.2.1
                    have hS : (fun wx : World => wx.cell? ⟨br, 0, none⟩ = some (.pointer (some ⟨rb, 0, none⟩))) w3.drew := cr3
                    refine wp_region_seq (fun wx : World => wx.cell? ⟨br, 0, none⟩ = some (.pointer (some ⟨rb, 0, none⟩)))
                      [(0, 1), (1, 0), (2, 0), (3, 0), (4, 0), (5, 0), (6, 3)]
                      [[6, 0]] (by kernel_rfl) (by kernel_rfl) (fun d _ _ _ _ h => by cases d <;> exact h) ?_
                    simp only [picks, List.getD_cons_succ, List.getD_cons_zero]
                    (refine seq_read (v := ?_) hS (by rfl) ?_ ?_; rotate_left; focus (intro wq hSq; obtain hq1 := hSq; first | (go_simp; done) | (go_simp; with_reducible rfl))); (try simp only [Act.put, List.setIfInBounds_toArray, List.set_cons_zero, List.set_cons_succ])
                    (refine seq_pure (v := ?_) (by rfl) ?_ ?_; rotate_left; focus (intro wq; first | (go_simp; done) | (go_simp; with_reducible rfl))); (try simp only [Act.put, List.setIfInBounds_toArray, List.set_cons_zero, List.set_cons_succ])
                    (refine seq_pure (v := ?_) (by rfl) ?_ ?_; rotate_left; focus (intro wq; first | (go_simp; done) | (go_simp; with_reducible rfl))); (try simp only [Act.put, List.setIfInBounds_toArray, List.set_cons_zero, List.set_cons_succ])
                    (refine seq_pure (v := ?_) (by rfl) ?_ ?_; rotate_left; focus (intro wq; first | (go_simp; done) | (go_simp; with_reducible rfl))); (try simp only [Act.put, List.setIfInBounds_toArray, List.set_cons_zero, List.set_cons_succ])
                    (refine seq_pure (v := ?_) (by rfl) ?_ ?_; rotate_left; focus (intro wq; first | (go_simp; done) | (go_simp; with_reducible rfl))); (try simp only [Act.put, List.setIfInBounds_toArray, List.set_cons_zero, List.set_cons_succ])
                    (refine seq_pure (v := ?_) (by rfl) ?_ ?_; rotate_left; focus (intro wq; first | (go_simp; done) | (go_simp; with_reducible rfl))); (try simp only [Act.put, List.setIfInBounds_toArray, List.set_cons_zero, List.set_cons_succ])
                    refine seq_do (fun K hK => ?_)
                    go_simp
                    refine hK.out _ _ ?_; clear hK; clear K
                    (try simp only [Act.put, List.setIfInBounds_toArray, List.set_cons_zero, List.set_cons_succ])
                    refine seq_nil ?_
                    clear hS
                    go_wp2_with fail
                    have hd5 := rd_at (w := w3.drew) H3.out.2.1 tt
                    have hk5 : Keeps [rb] w3 (w3.drew.setCell ⟨rb, 1, none⟩ (.int .i64 (tt : Int))) := (Keeps.refl _ _).drew.setCell (by simp) _
                    have hnb5 := H3.out.1.keep hk5 (by simpa using HP.out.lb) (by simpa using HP.out.ob) (by simpa using HP.out.rb_) (fun g hg => by simpa using (HP.out.g g hg).2.2.2)
                    have H5 := Lib.hid (And.intro hnb5 (And.intro hd5 (H3.out.2.2.trans hk5 (fun _ h _ => h))))
                    clear hd5 hk5 hnb5
                    go_roundw
                    case rel =>
                      refine ⟨jumps + 1, tt, some (i2), by go_num, rfl, rfl, og, out, tt, e2, count, H5.out.1, H5.out.2.1, H5.out.2.2, HR.out.2.2.2.1, ?_⟩
                      by_cases he2 : e2 = 0
                      · obtain ⟨h1, h2, h3⟩ := HX.out.1 he2
                        left
                        refine ⟨he2, ?_, ?_, HR.out.2.2.2.2.2.2.1, HR.out.2.2.2.2.2.2.2.1, HR.out.2.2.2.2.2.2.2.2.1, by omega, ?_, HR.out.2.2.2.2.2.2.2.2.2.2.2⟩
                        · rw [← HR.out.2.2.2.2.1, nameP_jump h1 (by rw [HNE.out]; omega) (by rw [HNE.out, ← h2, HTO.out]; omega), HNE.out, ← h2, HTO.out]
                          rw [h3]; rfl
                        · have := HR.out.2.2.2.2.2.2.2.2.2.2.1; omega
                        · have := HR.out.2.2.2.2.2.2.2.2.2.2.1; omega
                      · right
                        refine ⟨he2, ?_⟩
                        rw [← HR.out.2.2.2.2.1]
                        exact nameP_cut hat (by rw [HNE.out]; omega) (HX.out.2.1 he2)
                    case measure =>
                      by_cases he2 : e2 = 0
                      · subst he2
                        have h0 := nameM_ok (lim := tt) H5.out.2.1
                        have h1 := HX.out.2.2
                        have := name_less (S := s.size) (i := at_) (show tt < lim by omega)
                        refine Nat.lt_of_le_of_lt (Nat.le_of_eq h0) ?_
                        rw [h1]; omega
                      · have h0 := nameM_err (l := .int .i64 (tt : Int)) H5.out.2.1 he2
                        have h1 := HX.out.2.2
                        refine Nat.lt_of_le_of_lt (Nat.le_of_eq h0) ?_
                        rw [h1]; omega
              | some x =>
                have hen : enI (some x) = (x : Int) := rfl
                rw [hen]
                clear hen
                have hx0 : (0 : Int) ≤ (x : Int) := by omega
                by_cases hb : lim ≤ tt
                · have hbi : (lim : Int) ≤ (tt : Int) := by omega
                  go_upto_region 12 with (first
                    | (go_at_call 106; refine HN2.out.mono ?_; rintro e w3 ⟨rfl, h3, k3⟩
                       have hnb3 := H2.out.1.keep k3 (by simpa using HP.out.lb) (by simpa using HP.out.ob) (by simpa using HP.out.rb_) (fun g hg => by simpa using (HP.out.g g hg).2.2.2)
                       have cr3 : w3.cell? ⟨br, 0, none⟩ = some (.pointer (some ⟨rb, 0, none⟩)) := cell_of_heap hnb3.r rfl
                       have c13 : w3.cell? ⟨rb, 1, none⟩ = some (.int .i64 (i2 : Int)) := cell_of_heap h3 rfl
                       have f13 : w3.frozen? ⟨rb, 1, none⟩ = false := free_of_heap h3
                       have H3 := Lib.hid (And.intro hnb3 (And.intro h3 (H2.out.2.2.trans k3 (fun _ h _ => h))))
                       clear h3 k3 hnb3)
                    | (go_at_call 108; have hf := fail_any w3 rb s i2 e2 2 H3.out.2.1; rw [failE] at hf; refine hf.mono ?_; rintro e4 w4 ⟨rfl, h4, k4⟩
                       have hnb4 := H3.out.1.keep k4 (by simpa using HP.out.lb) (by simpa using HP.out.ob) (by simpa using HP.out.rb_) (fun g hg => by simpa using (HP.out.g g hg).2.2.2)
                       have cr4 : w4.drew.cell? ⟨br, 0, none⟩ = some (.pointer (some ⟨rb, 0, none⟩)) := cell_of_heap (w := w4) hnb4.r rfl
                       have c14 : w4.drew.cell? ⟨rb, 1, none⟩ = some (.int .i64 (i2 : Int)) := cell_of_heap (w := w4) h4 rfl
                       have f14 : w4.drew.frozen? ⟨rb, 1, none⟩ = false := free_of_heap (w := w4) h4
                       have H4 := Lib.hid (And.intro hnb4 (And.intro h4 (H3.out.2.2.trans k4 (fun _ h _ => h))))
                       clear h4 k4 hnb4 hf))
                  have hS : (fun wx : World => wx.cell? ⟨br, 0, none⟩ = some (.pointer (some ⟨rb, 0, none⟩))) w4.drew := cr4
                  refine wp_region_seq (fun wx : World => wx.cell? ⟨br, 0, none⟩ = some (.pointer (some ⟨rb, 0, none⟩)))
                    [(0, 1), (1, 0), (2, 0), (3, 0), (4, 0), (5, 0), (6, 3)]
                    [[6, 0]] (by kernel_rfl) (by kernel_rfl) (fun d _ _ _ _ h => by cases d <;> exact h) ?_
                  simp only [picks, List.getD_cons_succ, List.getD_cons_zero]
                  (refine seq_read (v := ?_) hS (by rfl) ?_ ?_; rotate_left; focus (intro wq hSq; obtain hq1 := hSq; first | (go_simp; done) | (go_simp; with_reducible rfl))); (try simp only [Act.put, List.setIfInBounds_toArray, List.set_cons_zero, List.set_cons_succ])
                  (refine seq_pure (v := ?_) (by rfl) ?_ ?_; rotate_left; focus (intro wq; first | (go_simp; done) | (go_simp; with_reducible rfl))); (try simp only [Act.put, List.setIfInBounds_toArray, List.set_cons_zero, List.set_cons_succ])
                  (refine seq_pure (v := ?_) (by rfl) ?_ ?_; rotate_left; focus (intro wq; first | (go_simp; done) | (go_simp; with_reducible rfl))); (try simp only [Act.put, List.setIfInBounds_toArray, List.set_cons_zero, List.set_cons_succ])
                  (refine seq_pure (v := ?_) (by rfl) ?_ ?_; rotate_left; focus (intro wq; first | (go_simp; done) | (go_simp; with_reducible rfl))); (try simp only [Act.put, List.setIfInBounds_toArray, List.set_cons_zero, List.set_cons_succ])
                  (refine seq_pure (v := ?_) (by rfl) ?_ ?_; rotate_left; focus (intro wq; first | (go_simp; done) | (go_simp; with_reducible rfl))); (try simp only [Act.put, List.setIfInBounds_toArray, List.set_cons_zero, List.set_cons_succ])
                  (refine seq_pure (v := ?_) (by rfl) ?_ ?_; rotate_left; focus (intro wq; first | (go_simp; done) | (go_simp; with_reducible rfl))); (try simp only [Act.put, List.setIfInBounds_toArray, List.set_cons_zero, List.set_cons_succ])
                  refine seq_do (fun K hK => ?_)
                  go_simp
                  refine hK.out _ _ ?_; clear hK; clear K
                  (try simp only [Act.put, List.setIfInBounds_toArray, List.set_cons_zero, List.set_cons_succ])
                  refine seq_nil ?_
                  clear hS
                  go_wp2_with fail
                  have hd5 := rd_at (w := w4.drew) H4.out.2.1 tt
                  have hk5 : Keeps [rb] w4 (w4.drew.setCell ⟨rb, 1, none⟩ (.int .i64 (tt : Int))) := (Keeps.refl _ _).drew.setCell (by simp) _
                  have hnb5 := H4.out.1.keep hk5 (by simpa using HP.out.lb) (by simpa using HP.out.ob) (by simpa using HP.out.rb_) (fun g hg => by simpa using (HP.out.g g hg).2.2.2)
                  have H5 := Lib.hid (And.intro hnb5 (And.intro hd5 (H4.out.2.2.trans hk5 (fun _ h _ => h))))
                  clear hd5 hk5 hnb5
                  go_roundw
                  case rel =>
                    have he4 : classE 0 e2 ≠ 0 := by unfold classE; rw [if_neg (by decide)]; split <;> omega
                    have hRn : R = none := by rw [← HR.out.2.2.2.2.1]; by_cases h1 : at_ + 1 < s.size
                                              · have he2 : e2 = 0 := by
                                                  by_cases h : e2 = 0
                                                  · exact h
                                                  · have := HX.out.2.1 h; omega
                                                exact nameP_bad hat (by rw [HNE.out]; omega) (by rw [HNE.out, ← (HX.out.1 he2).2.1, HTO.out]; omega)
                                              · exact nameP_cut hat (by rw [HNE.out]; omega) (by omega)
                    exact ⟨jumps + 1, tt, some (x), by go_num, rfl, rfl, og, out, tt, classE 0 e2, count, H5.out.1, H5.out.2.1, H5.out.2.2, HR.out.2.2.2.1, .inr ⟨he4, hRn⟩⟩
                  case measure =>
                    have he4 : classE 0 e2 ≠ 0 := by unfold classE; rw [if_neg (by decide)]; split <;> omega
                    have h0 := nameM_err (l := .int .i64 (tt : Int)) H5.out.2.1 he4
                    have h1 := HX.out.2.2
                    refine Nat.lt_of_le_of_lt (Nat.le_of_eq h0) ?_
                    rw [h1]; omega
                · have hbi : (tt : Int) < (lim : Int) := by omega
                  by_cases hj : 24 < jumps + 1
                  · have hji : (24 : Int) < (jumps : Int) + 1 := by omega
                    go_upto_region 12 with (first
                      | (go_at_call 106; refine HN2.out.mono ?_; rintro e w3 ⟨rfl, h3, k3⟩
                         have hnb3 := H2.out.1.keep k3 (by simpa using HP.out.lb) (by simpa using HP.out.ob) (by simpa using HP.out.rb_) (fun g hg => by simpa using (HP.out.g g hg).2.2.2)
                         have cr3 : w3.cell? ⟨br, 0, none⟩ = some (.pointer (some ⟨rb, 0, none⟩)) := cell_of_heap hnb3.r rfl
                         have c13 : w3.cell? ⟨rb, 1, none⟩ = some (.int .i64 (i2 : Int)) := cell_of_heap h3 rfl
                         have f13 : w3.frozen? ⟨rb, 1, none⟩ = false := free_of_heap h3
                         have H3 := Lib.hid (And.intro hnb3 (And.intro h3 (H2.out.2.2.trans k3 (fun _ h _ => h))))
                         clear h3 k3 hnb3)
                      | (go_at_call 108; have hf := fail_any w3 rb s i2 e2 2 H3.out.2.1; rw [failE] at hf; refine hf.mono ?_; rintro e4 w4 ⟨rfl, h4, k4⟩
                         have hnb4 := H3.out.1.keep k4 (by simpa using HP.out.lb) (by simpa using HP.out.ob) (by simpa using HP.out.rb_) (fun g hg => by simpa using (HP.out.g g hg).2.2.2)
                         have cr4 : w4.drew.cell? ⟨br, 0, none⟩ = some (.pointer (some ⟨rb, 0, none⟩)) := cell_of_heap (w := w4) hnb4.r rfl
                         have c14 : w4.drew.cell? ⟨rb, 1, none⟩ = some (.int .i64 (i2 : Int)) := cell_of_heap (w := w4) h4 rfl
                         have f14 : w4.drew.frozen? ⟨rb, 1, none⟩ = false := free_of_heap (w := w4) h4
                         have H4 := Lib.hid (And.intro hnb4 (And.intro h4 (H3.out.2.2.trans k4 (fun _ h _ => h))))
                         clear h4 k4 hnb4 hf))
                    have hS : (fun wx : World => wx.cell? ⟨br, 0, none⟩ = some (.pointer (some ⟨rb, 0, none⟩))) w4.drew := cr4
                    refine wp_region_seq (fun wx : World => wx.cell? ⟨br, 0, none⟩ = some (.pointer (some ⟨rb, 0, none⟩)))
                      [(0, 1), (1, 0), (2, 0), (3, 0), (4, 0), (5, 0), (6, 3)]
                      [[6, 0]] (by kernel_rfl) (by kernel_rfl) (fun d _ _ _ _ h => by cases d <;> exact h) ?_
                    simp only [picks, List.getD_cons_succ, List.getD_cons_zero]
                    (refine seq_read (v := ?_) hS (by rfl) ?_ ?_; rotate_left; focus (intro wq hSq; obtain hq1 := hSq; first | (go_simp; done) | (go_simp; with_reducible rfl))); (try simp only [Act.put, List.setIfInBounds_toArray, List.set_cons_zero, List.set_cons_succ])
                    (refine seq_pure (v := ?_) (by rfl) ?_ ?_; rotate_left; focus (intro wq; first | (go_simp; done) | (go_simp; with_reducible rfl))); (try simp only [Act.put, List.setIfInBounds_toArray, List.set_cons_zero, List.set_cons_succ])
                    (refine seq_pure (v := ?_) (by rfl) ?_ ?_; rotate_left; focus (intro wq; first | (go_simp; done) | (go_simp; with_reducible rfl))); (try simp only [Act.put, List.setIfInBounds_toArray, List.set_cons_zero, List.set_cons_succ])
                    (refine seq_pure (v := ?_) (by rfl) ?_ ?_; rotate_left; focus (intro wq; first | (go_simp; done) | (go_simp; with_reducible rfl))); (try simp only [Act.put, List.setIfInBounds_toArray, List.set_cons_zero, List.set_cons_succ])
                    (refine seq_pure (v := ?_) (by rfl) ?_ ?_; rotate_left; focus (intro wq; first | (go_simp; done) | (go_simp; with_reducible rfl))); (try simp only [Act.put, List.setIfInBounds_toArray, List.set_cons_zero, List.set_cons_succ])
                    (refine seq_pure (v := ?_) (by rfl) ?_ ?_; rotate_left; focus (intro wq; first | (go_simp; done) | (go_simp; with_reducible rfl))); (try simp only [Act.put, List.setIfInBounds_toArray, List.set_cons_zero, List.set_cons_succ])
                    refine seq_do (fun K hK => ?_)
                    go_simp
                    refine hK.out _ _ ?_; clear hK; clear K
                    (try simp only [Act.put, List.setIfInBounds_toArray, List.set_cons_zero, List.set_cons_succ])
                    refine seq_nil ?_
                    clear hS
                    go_wp2_with fail
                    have hd5 := rd_at (w := w4.drew) H4.out.2.1 tt
                    have hk5 : Keeps [rb] w4 (w4.drew.setCell ⟨rb, 1, none⟩ (.int .i64 (tt : Int))) := (Keeps.refl _ _).drew.setCell (by simp) _
                    have hnb5 := H4.out.1.keep hk5 (by simpa using HP.out.lb) (by simpa using HP.out.ob) (by simpa using HP.out.rb_) (fun g hg => by simpa using (HP.out.g g hg).2.2.2)
                    have H5 := Lib.hid (And.intro hnb5 (And.intro hd5 (H4.out.2.2.trans hk5 (fun _ h _ => h))))
                    clear hd5 hk5 hnb5
                    go_roundw
                    case rel =>
                      have he4 : classE 0 e2 ≠ 0 := by unfold classE; rw [if_neg (by decide)]; split <;> omega
                      have hRn : R = none := by rw [← HR.out.2.2.2.2.1]; by_cases h1 : at_ + 1 < s.size
                                                · have he2 : e2 = 0 := by
                                                    by_cases h : e2 = 0
                                                    · exact h
                                                    · have := HX.out.2.1 h; omega
                                                  exact nameP_bad hat (by rw [HNE.out]; omega) (by rw [HNE.out, ← (HX.out.1 he2).2.1, HTO.out]; omega)
                                                · exact nameP_cut hat (by rw [HNE.out]; omega) (by omega)
                      exact ⟨jumps + 1, tt, some (x), by go_num, rfl, rfl, og, out, tt, classE 0 e2, count, H5.out.1, H5.out.2.1, H5.out.2.2, HR.out.2.2.2.1, .inr ⟨he4, hRn⟩⟩
                    case measure =>
                      have he4 : classE 0 e2 ≠ 0 := by unfold classE; rw [if_neg (by decide)]; split <;> omega
                      have h0 := nameM_err (l := .int .i64 (tt : Int)) H5.out.2.1 he4
                      have h1 := HX.out.2.2
                      refine Nat.lt_of_le_of_lt (Nat.le_of_eq h0) ?_
                      rw [h1]; omega
                  · have hji : (jumps : Int) + 1 ≤ 24 := by omega
                    go_upto_region 12 with (first
                      | (go_at_call 106; refine HN2.out.mono ?_; rintro e w3 ⟨rfl, h3, k3⟩
                         have hnb3 := H2.out.1.keep k3 (by simpa using HP.out.lb) (by simpa using HP.out.ob) (by simpa using HP.out.rb_) (fun g hg => by simpa using (HP.out.g g hg).2.2.2)
                         have cr3 : w3.cell? ⟨br, 0, none⟩ = some (.pointer (some ⟨rb, 0, none⟩)) := cell_of_heap hnb3.r rfl
                         have c13 : w3.cell? ⟨rb, 1, none⟩ = some (.int .i64 (i2 : Int)) := cell_of_heap h3 rfl
                         have f13 : w3.frozen? ⟨rb, 1, none⟩ = false := free_of_heap h3
                         have H3 := Lib.hid (And.intro hnb3 (And.intro h3 (H2.out.2.2.trans k3 (fun _ h _ => h))))
                         clear h3 k3 hnb3)
                      | fail)
                    have cr3 : w3.drew.cell? ⟨br, 0, none⟩ = some (.pointer (some ⟨rb, 0, none⟩)) := cell_of_heap (w := w3) H3.out.1.r rfl
                    have c13 : w3.drew.cell? ⟨rb, 1, none⟩ = some (.int .i64 (i2 : Int)) := cell_of_heap (w := w3) H3.out.2.1 rfl
                    have f13 : w3.drew.frozen? ⟨rb, 1, none⟩ = false := free_of_heap (w := w3) H3.out.2.1
                    have hS : (fun wx : World => wx.cell? ⟨br, 0, none⟩ = some (.pointer (some ⟨rb, 0, none⟩))) w3.drew := cr3
                    refine wp_region_seq (fun wx : World => wx.cell? ⟨br, 0, none⟩ = some (.pointer (some ⟨rb, 0, none⟩)))
                      [(0, 1), (1, 0), (2, 0), (3, 0), (4, 0), (5, 0), (6, 3)]
                      [[6, 0]] (by kernel_rfl) (by kernel_rfl) (fun d _ _ _ _ h => by cases d <;> exact h) ?_
                    simp only [picks, List.getD_cons_succ, List.getD_cons_zero]
                    (refine seq_read (v := ?_) hS (by rfl) ?_ ?_; rotate_left; focus (intro wq hSq; obtain hq1 := hSq; first | (go_simp; done) | (go_simp; with_reducible rfl))); (try simp only [Act.put, List.setIfInBounds_toArray, List.set_cons_zero, List.set_cons_succ])
                    (refine seq_pure (v := ?_) (by rfl) ?_ ?_; rotate_left; focus (intro wq; first | (go_simp; done) | (go_simp; with_reducible rfl))); (try simp only [Act.put, List.setIfInBounds_toArray, List.set_cons_zero, List.set_cons_succ])
                    (refine seq_pure (v := ?_) (by rfl) ?_ ?_; rotate_left; focus (intro wq; first | (go_simp; done) | (go_simp; with_reducible rfl))); (try simp only [Act.put, List.setIfInBounds_toArray, List.set_cons_zero, List.set_cons_succ])
                    (refine seq_pure (v := ?_) (by rfl) ?_ ?_; rotate_left; focus (intro wq; first | (go_simp; done) | (go_simp; with_reducible rfl))); (try simp only [Act.put, List.setIfInBounds_toArray, List.set_cons_zero, List.set_cons_succ])
                    (refine seq_pure (v := ?_) (by rfl) ?_ ?_; rotate_left; focus (intro wq; first | (go_simp; done) | (go_simp; with_reducible rfl))); (try simp only [Act.put, List.setIfInBounds_toArray, List.set_cons_zero, List.set_cons_succ])
                    (refine seq_pure (v := ?_) (by rfl) ?_ ?_; rotate_left; focus (intro wq; first | (go_simp; done) | (go_simp; with_reducible rfl))); (try simp only [Act.put, List.setIfInBounds_toArray, List.set_cons_zero, List.set_cons_succ])
                    refine seq_do (fun K hK => ?_)
                    go_simp
                    refine hK.out _ _ ?_; clear hK; clear K
                    (try simp only [Act.put, List.setIfInBounds_toArray, List.set_cons_zero, List.set_cons_succ])
                    refine seq_nil ?_
                    clear hS
                    go_wp2_with fail
                    have hd5 := rd_at (w := w3.drew) H3.out.2.1 tt
                    have hk5 : Keeps [rb] w3 (w3.drew.setCell ⟨rb, 1, none⟩ (.int .i64 (tt : Int))) := (Keeps.refl _ _).drew.setCell (by simp) _
                    have hnb5 := H3.out.1.keep hk5 (by simpa using HP.out.lb) (by simpa using HP.out.ob) (by simpa using HP.out.rb_) (fun g hg => by simpa using (HP.out.g g hg).2.2.2)
                    have H5 := Lib.hid (And.intro hnb5 (And.intro hd5 (H3.out.2.2.trans hk5 (fun _ h _ => h))))
                    clear hd5 hk5 hnb5
                    go_roundw
                    case rel =>
                      refine ⟨jumps + 1, tt, some (x), by go_num, rfl, rfl, og, out, tt, e2, count, H5.out.1, H5.out.2.1, H5.out.2.2, HR.out.2.2.2.1, ?_⟩
                      by_cases he2 : e2 = 0
                      · obtain ⟨h1, h2, h3⟩ := HX.out.1 he2
                        left
                        refine ⟨he2, ?_, ?_, HR.out.2.2.2.2.2.2.1, HR.out.2.2.2.2.2.2.2.1, HR.out.2.2.2.2.2.2.2.2.1, by omega, ?_, HR.out.2.2.2.2.2.2.2.2.2.2.2⟩
                        · rw [← HR.out.2.2.2.2.1, nameP_jump h1 (by rw [HNE.out]; omega) (by rw [HNE.out, ← h2, HTO.out]; omega), HNE.out, ← h2, HTO.out]
                          rfl
                        · have := HR.out.2.2.2.2.2.2.2.2.2.2.1; omega
                        · have := HR.out.2.2.2.2.2.2.2.2.2.2.1; omega
                      · right
                        refine ⟨he2, ?_⟩
                        rw [← HR.out.2.2.2.2.1]
                        exact nameP_cut hat (by rw [HNE.out]; omega) (HX.out.2.1 he2)
                    case measure =>
                      by_cases he2 : e2 = 0
                      · subst he2
                        have h0 := nameM_ok (lim := tt) H5.out.2.1
                        have h1 := HX.out.2.2
                        have := name_less (S := s.size) (i := at_) (show tt < lim by omega)
                        refine Nat.lt_of_le_of_lt (Nat.le_of_eq h0) ?_
                        rw [h1]; omega
                      · have h0 := nameM_err (l := .int .i64 (tt : Int)) H5.out.2.1 he2
                        have h1 := HX.out.2.2
                        refine Nat.lt_of_le_of_lt (Nat.le_of_eq h0) ?_
                        rw [h1]; omega
      · have hnx := next_no wr rb s at_ hrd (by omega)
        have hRn : R = none := by rw [← hst.1]; exact nameP_short (by omega)
        have hm := nameM_ok (lim := lim) hrd
        have HN := Lib.hid hnx
        have HR := Lib.hid (And.intro hnb (And.intro hrd (And.intro hkp (And.intro hgw hRn))))
        have HP := Lib.hid hap
        have HM := Lib.hid hm
        clear hnx hnb hrd hkp hgw hst hap hRn hm
        go_wp2_with (go_at_call 106; refine HN.out.mono ?_; rintro e w2 ⟨rfl, h2, k2⟩
                     have hnb2 := HR.out.1.keep k2 (by simpa using HP.out.lb) (by simpa using HP.out.ob) (by simpa using HP.out.rb_) (fun g hg => by simpa using (HP.out.g g hg).2.2.2)
                     have cr2 : w2.cell? ⟨br, 0, none⟩ = some (.pointer (some ⟨rb, 0, none⟩)) := cell_of_heap hnb2.r rfl
                     have c22 : w2.cell? ⟨rb, 2, none⟩ = some (.int .i64 1) := cell_of_heap h2 rfl
                     have H2 := Lib.hid (And.intro hnb2 (And.intro h2 (HR.out.2.2.1.trans k2 (fun _ h _ => h))))
                     clear h2 k2 hnb2)
        go_roundw
        case rel => exact ⟨jumps, lim, en, rfl, rfl, rfl, og, out, at_, 1, count, H2.out.1, H2.out.2.1, H2.out.2.2, HR.out.2.2.2.1, .inr ⟨by decide, HR.out.2.2.2.2⟩⟩
        case measure => rw [nameM_err H2.out.2.1 (by decide), HM.out]; omega
    · have hR : R = none := by
        rcases hst with ⟨h, _⟩ | ⟨_, h⟩
        · exact absurd h he
        · exact h
      have he' : ((e_ : Int) == 0) = false := by simpa using he
      have HR := Lib.hid (And.intro hkp (And.intro hrd hR))
      have HE := Lib.hid he
      clear hnb hrd hkp hgw hst hap he hR
      go_wp2_with fail
      go_ret
      exact ⟨HR.out.1, .inr ⟨HR.out.2.2, _, _, _, rfl, HR.out.2.1, HE.out, by decide⟩⟩
end Go.Proofs.Sess
namespace Go.Proofs.Sess
open Go Go.RowKit

/-- Where a name ends there is still the message. -/
theorem nameP_le {s : ByteArray} : ∀ (m at_ lim jumps count : Nat) (out : List Nat) (en : Option Nat) (nm : List Nat) (j : Nat), lim * (s.size + 1) + (s.size - at_) ≤ m → (∀ x, en = some x → x ≤ s.size) → nameP s at_ lim jumps count out en = some (nm, j) → j ≤ s.size ∧ (∀ x, en = some x → j = x) ∧ (en = none → at_ < j) := by
  intro m
  induction m with
  | zero =>
    intro at_ lim jumps count out en nm j hm hen h
    by_cases hs : s.size ≤ at_
    · rw [nameP_short hs] at h; cases h
    · omega
  | succ m ih =>
    intro at_ lim jumps count out en nm j hm hen h
    by_cases hs : s.size ≤ at_
    · rw [nameP_short hs] at h; cases h
    · have hlt : at_ < s.size := by omega
      by_cases h0 : byt s at_ = 0
      · rw [nameP_zero hlt h0] at h
        simp only [Option.some.injEq, Prod.mk.injEq] at h
        obtain ⟨_, rfl⟩ := h
        cases en with
        | none => exact ⟨by simp; omega, by simp, by simp⟩
        | some x => exact ⟨hen x rfl, by simp, by simp⟩
      · by_cases h63 : byt s at_ ≤ 63
        · rw [nameP_label hlt h0 h63] at h
          split at h
          · cases h
          · rename_i o ho
            have := ih (at_ + 1 + byt s at_) lim jumps (count + 1) o en nm j (by omega) hen h
            exact ⟨this.1, this.2.1, fun he => by have := this.2.2 he; omega⟩
        · by_cases h192 : byt s at_ < 192
          · rw [nameP_mid hlt (by omega) h192] at h; cases h
          · by_cases h1 : s.size ≤ at_ + 1
            · rw [nameP_cut hlt (by omega) h1] at h; cases h
            · by_cases hb : lim ≤ byt s at_ % 64 * 256 + byt s (at_ + 1) ∨ 24 < jumps + 1
              · rw [nameP_bad hlt (by omega) hb] at h; cases h
              · rw [nameP_jump (by omega) (by omega) hb] at h
                have hl := name_less (S := s.size) (i := at_) (show byt s at_ % 64 * 256 + byt s (at_ + 1) < lim by omega)
                have hen' : ∀ x, some (en.getD (at_ + 2)) = some x → x ≤ s.size := by
                  intro x hx
                  simp only [Option.some.injEq] at hx
                  cases en with
                  | none => simp at hx; omega
                  | some y => simp at hx; subst hx; exact hen y rfl
                have := ih _ _ _ _ _ _ nm j (by omega) hen' h
                have hj := this.2.1 _ rfl
                refine ⟨this.1, fun x hx => ?_, fun he => ?_⟩
                · subst hx; exact hj
                · subst he; rw [hj]; simp

/-- The number read, where no error comes up. -/
theorem num_ok (s : ByteArray) : ∀ (k n i e : Nat), (num s k n i e).2.2 = 0 → e = 0 ∧ i + k ≤ s.size ∧ (num s k n i e).2.1 = i + k ∨ k = 0
  | 0, _, _, _, _ => .inr rfl
  | k + 1, n, i, e, h => by
    left
    rw [num] at h ⊢
    by_cases he : e = 0
    · subst he
      by_cases hi : i < s.size
      · have hx : nxt s i 0 = (byt s i, i + 1, 0) := by unfold nxt; rw [if_pos rfl, if_pos hi]
        rw [hx] at h ⊢
        rcases num_ok s k _ _ _ h with ⟨_, h2, h3⟩ | hk
        · dsimp only at h2 h3 ⊢
          exact ⟨rfl, by omega, by rw [h3]; omega⟩
        · subst hk; exact ⟨rfl, by omega, by simp [num]⟩
      · exfalso
        have hx : nxt s i 0 = (0, i, 1) := by unfold nxt; rw [if_pos rfl, if_neg hi]
        rw [hx] at h
        rcases num_ok s k _ _ _ h with ⟨h1, _⟩ | hk
        · cases h1
        · subst hk; simp [num] at h
    · exfalso
      have hx : nxt s i e = (0, i, e) := by unfold nxt; rw [if_neg he]
      rw [hx] at h
      rcases num_ok s k _ _ _ h with ⟨h1, _⟩ | hk
      · exact he h1
      · subst hk; simp [num] at h; exact he h
theorem num_err (s : ByteArray) : ∀ (k n i e : Nat), e ≠ 0 → (num s k n i e).2.2 = e ∧ (num s k n i e).2.1 = i
  | 0, _, _, _, _ => ⟨rfl, rfl⟩
  | k + 1, n, i, e, h => by
    have hx : nxt s i e = (0, i, e) := by unfold nxt; rw [if_neg h]
    rw [num, hx]
    exact num_err s k _ _ _ h
theorem num2_ok {s : ByteArray} {i : Nat} (h : i + 2 ≤ s.size) : num s 2 0 i 0 = (num2 s i, i + 2, 0) := by
  have h1 : nxt s i 0 = (byt s i, i + 1, 0) := by unfold nxt; rw [if_pos rfl, if_pos (by omega)]
  have h2 : nxt s (i + 1) 0 = (byt s (i + 1), i + 2, 0) := by unfold nxt; rw [if_pos rfl, if_pos (by omega)]
  rw [num, h1]
  show num s 1 (0 * 256 + byt s i) (i + 1) 0 = _
  rw [num, h2]
  show ((0 * 256 + byt s i) * 256 + byt s (i + 1), i + 2, 0) = _
  unfold num2
  rw [Nat.zero_mul, Nat.zero_add]
theorem num2_short {s : ByteArray} {i : Nat} (h : s.size < i + 2) : (num s 2 0 i 0).2.2 ≠ 0 := fun h0 => by
  rcases num_ok s 2 0 i 0 h0 with ⟨_, h2, _⟩ | h
  · omega
  · cases h

set_option maxRecDepth 100000 in
set_option maxHeartbeats 4000000 in
/-- name behind an error. -/
theorem name_err (w : World) (rb : Nat) (s : ByteArray) (i e : Nat) (hr : w.heap[rb]? = some (RdObj s i e)) (he : e ≠ 0) :
    Calls Tryz.prog 83 #[.pointer (some ⟨rb, 0, none⟩)] w fun en w' => en = .returned (.string ⟨#[]⟩) ∧ w'.heap[rb]? = some (RdObj s i e) ∧ Keeps [rb] w w' := by
  have he' : ((e : Int) == 0) = false := by simpa using he
  have hbl := lt_of_heap hr
  have k1 : Keeps [] w ((w.alloc (.cells #[.pointer (some ⟨rb, 0, none⟩)] 165)).alloc (.cells #[.slice none 0 0] 75)).drew := (((Keeps.refl _ _).alloc _).alloc _).drew
  have hb1 : ((w.alloc (.cells #[.pointer (some ⟨rb, 0, none⟩)] 165)).alloc (.cells #[.slice none 0 0] 75)).drew.heap[w.heap.size]? = some (.cells #[.pointer (some ⟨rb, 0, none⟩)] 165 (0, 0)) := (heap_alloc_far (by simp)).trans heap_alloc_self
  have cb1 : ((w.alloc (.cells #[.pointer (some ⟨rb, 0, none⟩)] 165)).alloc (.cells #[.slice none 0 0] 75)).drew.cell? ⟨w.heap.size, 0, none⟩ = some (.pointer (some ⟨rb, 0, none⟩)) := cell_of_heap hb1 rfl
  have cr1 : ((w.alloc (.cells #[.pointer (some ⟨rb, 0, none⟩)] 165)).alloc (.cells #[.slice none 0 0] 75)).drew.cell? ⟨rb, 1, none⟩ = some (.int .i64 (i : Int)) := cell_of_heap (k1.heap hr (by simp)) rfl
  have n1 : (((w.alloc (.cells #[.pointer (some ⟨rb, 0, none⟩)] 165)).alloc (.cells #[.slice none 0 0] 75)).alloc (.cells #[.int .i64 0] 3)).drew.heap[w.heap.size]? = some (.cells #[.pointer (some ⟨rb, 0, none⟩)] 165 (0, 0)) := (heap_alloc_far (by simp; omega)).trans ((heap_alloc_far (by simp)).trans heap_alloc_self)
  have nd : (((w.alloc (.cells #[.pointer (some ⟨rb, 0, none⟩)] 165)).alloc (.cells #[.slice none 0 0] 75)).alloc (.cells #[.int .i64 0] 3)).drew.heap[rb]? = some (RdObj s i e) := ((((((Keeps.refl [] w).alloc _).alloc _).alloc _).drew).heap hr (by simp))
  have cb2 : (((w.alloc (.cells #[.pointer (some ⟨rb, 0, none⟩)] 165)).alloc (.cells #[.slice none 0 0] 75)).alloc (.cells #[.int .i64 0] 3)).drew.cell? ⟨w.heap.size, 0, none⟩ = some (.pointer (some ⟨rb, 0, none⟩)) := cell_of_heap n1 rfl
  have cr2 : (((w.alloc (.cells #[.pointer (some ⟨rb, 0, none⟩)] 165)).alloc (.cells #[.slice none 0 0] 75)).alloc (.cells #[.int .i64 0] 3)).drew.cell? ⟨rb, 2, none⟩ = some (.int .i64 (e : Int)) := cell_of_heap nd rfl
  have k2 : Keeps [rb] w (((w.alloc (.cells #[.pointer (some ⟨rb, 0, none⟩)] 165)).alloc (.cells #[.slice none 0 0] 75)).alloc (.cells #[.int .i64 0] 3)).drew := ((((Keeps.refl _ _).alloc _).alloc _).alloc _).drew
  have HE := Lib.hid (And.intro nd k2)
  clear hb1 hr k1 n1 nd k2 he
  go_enter Tryz.func83, Tryz.ntmps83
  go_upto_region 2 with fail
  have hS : (fun wx : World => wx.cell? ⟨w.heap.size, 0, none⟩ = some (.pointer (some ⟨rb, 0, none⟩)) ∧ wx.cell? ⟨rb, 1, none⟩ = some (.int .i64 (i : Int))) ((w.alloc (.cells #[.pointer (some ⟨rb, 0, none⟩)] 165)).alloc (.cells #[.slice none 0 0] 75)).drew := ⟨cb1, cr1⟩
  refine wp_region_seq (fun wx : World => wx.cell? ⟨w.heap.size, 0, none⟩ = some (.pointer (some ⟨rb, 0, none⟩)) ∧ wx.cell? ⟨rb, 1, none⟩ = some (.int .i64 (i : Int)))
    [(0, 1), (1, 0), (2, 0), (3, 1), (4, 2), (5, 2), (6, 0), (7, 0), (8, 0)]
    [] (by kernel_rfl) (by kernel_rfl) (fun d _ _ _ _ h => by cases d <;> exact h) ?_
  simp only [picks, List.getD_cons_succ, List.getD_cons_zero]
  (refine seq_read (v := ?_) hS (by rfl) ?_ ?_; rotate_left; focus (intro wq hSq; obtain ⟨hq1, hq2⟩ := hSq; first | (go_simp; done) | (go_simp; with_reducible rfl))); (try simp only [Act.put, List.setIfInBounds_toArray, List.set_cons_zero, List.set_cons_succ])
  (refine seq_pure (v := ?_) (by rfl) ?_ ?_; rotate_left; focus (intro wq; first | (go_simp; done) | (go_simp; with_reducible rfl))); (try simp only [Act.put, List.setIfInBounds_toArray, List.set_cons_zero, List.set_cons_succ])
  (refine seq_pure (v := ?_) (by rfl) ?_ ?_; rotate_left; focus (intro wq; first | (go_simp; done) | (go_simp; with_reducible rfl))); (try simp only [Act.put, List.setIfInBounds_toArray, List.set_cons_zero, List.set_cons_succ])
  (refine seq_read (v := ?_) hS (by rfl) ?_ ?_; rotate_left; focus (intro wq hSq; obtain ⟨hq1, hq2⟩ := hSq; first | (go_simp; done) | (go_simp; with_reducible rfl))); (try simp only [Act.put, List.setIfInBounds_toArray, List.set_cons_zero, List.set_cons_succ])
  refine seq_act (fun K hK => ?_)
  go_simp
  refine hK.out _ _ (by exact ⟨((Keeps.refl [] _).drew.alloc _).cell (w := (w.alloc (.cells #[.pointer (some ⟨rb, 0, none⟩)] 165)).alloc (.cells #[.slice none 0 0] 75)) cb1 (by simp), ((Keeps.refl [] _).drew.alloc _).cell (w := (w.alloc (.cells #[.pointer (some ⟨rb, 0, none⟩)] 165)).alloc (.cells #[.slice none 0 0] 75)) cr1 (by simp)⟩) ?_; clear hK; clear K
  (try simp only [Act.put, List.setIfInBounds_toArray, List.set_cons_zero, List.set_cons_succ])
  refine seq_act (fun K hK => ?_)
  go_simp
  refine hK.out _ _ (by exact ⟨((Keeps.refl [] _).drew.alloc _).cell (w := (w.alloc (.cells #[.pointer (some ⟨rb, 0, none⟩)] 165)).alloc (.cells #[.slice none 0 0] 75)) cb1 (by simp), ((Keeps.refl [] _).drew.alloc _).cell (w := (w.alloc (.cells #[.pointer (some ⟨rb, 0, none⟩)] 165)).alloc (.cells #[.slice none 0 0] 75)) cr1 (by simp)⟩) ?_; clear hK; clear K
  (try simp only [Act.put, List.setIfInBounds_toArray, List.set_cons_zero, List.set_cons_succ])
  (refine seq_pure (v := ?_) (by rfl) ?_ ?_; rotate_left; focus (intro wq; first | (go_simp; done) | (go_simp; with_reducible rfl))); (try simp only [Act.put, List.setIfInBounds_toArray, List.set_cons_zero, List.set_cons_succ])
  (refine seq_pure (v := ?_) (by rfl) ?_ ?_; rotate_left; focus (intro wq; first | (go_simp; done) | (go_simp; with_reducible rfl))); (try simp only [Act.put, List.setIfInBounds_toArray, List.set_cons_zero, List.set_cons_succ])
  (refine seq_pure (v := ?_) (by rfl) ?_ ?_; rotate_left; focus (intro wq; first | (go_simp; done) | (go_simp; with_reducible rfl))); (try simp only [Act.put, List.setIfInBounds_toArray, List.set_cons_zero, List.set_cons_succ])
  refine seq_nil ?_
  clear hS cb1 cr1
  go_wp2_with fail
  refine wp_loop_rounds 1 ?_
  rw [rounds_succ]
  go_wp2_with fail
  go_ret
  exact ⟨rfl, HE.out.1, HE.out.2⟩
end Go.Proofs.Sess
namespace Go.Proofs.Sess
open Go Go.RowKit

theorem strN_cut {s : ByteArray} {i n : Nat} (h : i + n ≤ s.size) : strN (cut s i n) = s.extract i (i + n) := by
  apply ByteArray.ext
  apply Array.ext
  · simp [strN, cut]; omega
  · intro k h1 h2
    simp [strN, cut] at h1
    have hk : i + k < s.size := by omega
    simp [strN, cut, byt_get s (i + k) hk]
    rfl

/-- What data gives. -/
def DataTo (w : World) (rb : Nat) (s : ByteArray) (i n : Nat) (R : Option (List Nat)) (en : Ending) (w' : World) : Prop :=
  Keeps [rb] w w' ∧ ((∃ d, R = some d ∧ (∀ x ∈ d, x < 256) ∧ en = .returned (.string (strN d)) ∧ w'.heap[rb]? = some (RdObj s (i + n) 0)) ∨ (R = none ∧ ∃ v i' e', en = .returned (.string v) ∧ w'.heap[rb]? = some (RdObj s i' e') ∧ e' ≠ 0))

set_option maxRecDepth 100000 in
set_option maxHeartbeats 4000000 in
theorem data_err (w : World) (rb : Nat) (s : ByteArray) (i e kind n : Nat) (hr : w.heap[rb]? = some (RdObj s i e)) (he : e ≠ 0) :
    Calls Tryz.prog 85 #[.pointer (some ⟨rb, 0, none⟩), .int .i64 (kind : Int), .int .i64 (n : Int)] w fun en w' => en = .returned (.string ⟨#[]⟩) ∧ w'.heap[rb]? = some (RdObj s i e) ∧ Keeps [rb] w w' := by
  have c0 : w.cell? ⟨rb, 0, none⟩ = some (.string s) := cell_of_heap hr rfl
  have c1 : w.cell? ⟨rb, 1, none⟩ = some (.int .i64 (i : Int)) := cell_of_heap hr rfl
  have c2 : w.cell? ⟨rb, 2, none⟩ = some (.int .i64 (e : Int)) := cell_of_heap hr rfl
  have f1 : w.frozen? ⟨rb, 1, none⟩ = false := free_of_heap hr
  have f2 : w.frozen? ⟨rb, 2, none⟩ = false := free_of_heap hr
  have HR := Lib.hid hr
  have he1 : ((e : Int) == 0) = false := by simpa using he
  have he2 : ((e : Int) != 0) = true := by simpa using he
  have d2 : w.drew.cell? ⟨rb, 2, none⟩ = some (.int .i64 (e : Int)) := c2
  have hS : (fun wx : World => wx.cell? ⟨rb, 0, none⟩ = some (.string s) ∧ wx.cell? ⟨rb, 1, none⟩ = some (.int .i64 (i : Int)) ∧ wx.cell? ⟨rb, 2, none⟩ = some (.int .i64 (e : Int))) w.drew := ⟨c0, c1, c2⟩
  clear hr he
  go_enter Tryz.func85, Tryz.ntmps85
  go_upto_region 1 with fail
  refine wp_region_seq (fun wx : World => wx.cell? ⟨rb, 0, none⟩ = some (.string s) ∧ wx.cell? ⟨rb, 1, none⟩ = some (.int .i64 (i : Int)) ∧ wx.cell? ⟨rb, 2, none⟩ = some (.int .i64 (e : Int)))
    [(0, 0), (1, 0), (2, 0), (3, 1), (4, 0), (5, 0), (6, 0), (7, 0), (8, 0), (9, 0), (10, 1), (11, 0), (12, 0), (13, 0), (14, 0), (15, 1), (16, 0), (17, 0), (18, 0)]
    [] (by kernel_rfl) (by kernel_rfl) (fun d _ _ _ _ h => by cases d <;> exact h) ?_
  simp only [picks, List.getD_cons_succ, List.getD_cons_zero]
  (refine seq_pure (v := ?_) (by rfl) ?_ ?_; rotate_left; focus (intro wq; first | (go_simp; done) | (go_simp; with_reducible rfl))); (try simp only [Act.put, List.setIfInBounds_toArray, List.set_cons_zero, List.set_cons_succ])
  (refine seq_pure (v := ?_) (by rfl) ?_ ?_; rotate_left; focus (intro wq; first | (go_simp; done) | (go_simp; with_reducible rfl))); (try simp only [Act.put, List.setIfInBounds_toArray, List.set_cons_zero, List.set_cons_succ])
  (refine seq_pure (v := ?_) (by rfl) ?_ ?_; rotate_left; focus (intro wq; first | (go_simp; done) | (go_simp; with_reducible rfl))); (try simp only [Act.put, List.setIfInBounds_toArray, List.set_cons_zero, List.set_cons_succ])
  (refine seq_read (v := ?_) hS (by rfl) ?_ ?_; rotate_left; focus (intro wq hSq; obtain ⟨hq1, hq2, hq3⟩ := hSq; first | (go_simp; done) | (go_simp; with_reducible rfl))); (try simp only [Act.put, List.setIfInBounds_toArray, List.set_cons_zero, List.set_cons_succ])
  (refine seq_pure (v := ?_) (by rfl) ?_ ?_; rotate_left; focus (intro wq; first | (go_simp; done) | (go_simp; with_reducible rfl))); (try simp only [Act.put, List.setIfInBounds_toArray, List.set_cons_zero, List.set_cons_succ])
  (refine seq_pure (v := ?_) (by rfl) ?_ ?_; rotate_left; focus (intro wq; first | (go_simp; done) | (go_simp; with_reducible rfl))); (try simp only [Act.put, List.setIfInBounds_toArray, List.set_cons_zero, List.set_cons_succ])
  (refine seq_skip (by rfl) ?_); (try simp only [Act.put, List.setIfInBounds_toArray, List.set_cons_zero, List.set_cons_succ])
  (refine seq_skip (by rfl) ?_); (try simp only [Act.put, List.setIfInBounds_toArray, List.set_cons_zero, List.set_cons_succ])
  (refine seq_skip (by rfl) ?_); (try simp only [Act.put, List.setIfInBounds_toArray, List.set_cons_zero, List.set_cons_succ])
  (refine seq_skip (by rfl) ?_); (try simp only [Act.put, List.setIfInBounds_toArray, List.set_cons_zero, List.set_cons_succ])
  (refine seq_read_skip hS (by rfl) ?_); (try simp only [Act.put, List.setIfInBounds_toArray, List.set_cons_zero, List.set_cons_succ])
  (refine seq_skip (by rfl) ?_); (try simp only [Act.put, List.setIfInBounds_toArray, List.set_cons_zero, List.set_cons_succ])
  (refine seq_skip (by rfl) ?_); (try simp only [Act.put, List.setIfInBounds_toArray, List.set_cons_zero, List.set_cons_succ])
  (refine seq_skip (by rfl) ?_); (try simp only [Act.put, List.setIfInBounds_toArray, List.set_cons_zero, List.set_cons_succ])
  (refine seq_skip (by rfl) ?_); (try simp only [Act.put, List.setIfInBounds_toArray, List.set_cons_zero, List.set_cons_succ])
  (refine seq_read_skip hS (by rfl) ?_); (try simp only [Act.put, List.setIfInBounds_toArray, List.set_cons_zero, List.set_cons_succ])
  (refine seq_skip (by rfl) ?_); (try simp only [Act.put, List.setIfInBounds_toArray, List.set_cons_zero, List.set_cons_succ])
  (refine seq_skip (by rfl) ?_); (try simp only [Act.put, List.setIfInBounds_toArray, List.set_cons_zero, List.set_cons_succ])
  (refine seq_pure (v := ?_) (by rfl) ?_ ?_; rotate_left; focus (intro wq; first | (go_simp; done) | (go_simp; with_reducible rfl))); (try simp only [Act.put, List.setIfInBounds_toArray, List.set_cons_zero, List.set_cons_succ])
  refine seq_nil ?_
  go_wp2_with fail
  go_ret
  exact ⟨rfl, HR.out, (Keeps.refl _ _).drew⟩

set_option maxRecDepth 100000 in
set_option maxHeartbeats 4000000 in
theorem data_short (w : World) (rb : Nat) (s : ByteArray) (i kind n : Nat) (hr : w.heap[rb]? = some (RdObj s i 0)) (_hs : s.size < 1000000) (hi : i ≤ s.size) (hn : n < 65536) (hb : s.size < i + n) (R : Option (List Nat)) (hR : R = none) :
    Calls Tryz.prog 85 #[.pointer (some ⟨rb, 0, none⟩), .int .i64 (kind : Int), .int .i64 (n : Int)] w (DataTo w rb s i n R) := by
  have c0 : w.cell? ⟨rb, 0, none⟩ = some (.string s) := cell_of_heap hr rfl
  have c1 : w.cell? ⟨rb, 1, none⟩ = some (.int .i64 (i : Int)) := cell_of_heap hr rfl
  have c2 : w.cell? ⟨rb, 2, none⟩ = some (.int .i64 ((0 : Nat) : Int)) := cell_of_heap hr rfl
  have f1 : w.frozen? ⟨rb, 1, none⟩ = false := free_of_heap hr
  have f2 : w.frozen? ⟨rb, 2, none⟩ = false := free_of_heap hr
  have HR := Lib.hid hr
  have hwr : IntKind.i64.wrap ((s.size : Int) - (i : Int)) = (s.size : Int) - (i : Int) := IntWalk.i64_in _ (by omega)
  have hgt : (s.size : Int) - (i : Int) < (n : Int) := by omega
  have d2 : w.drew.cell? ⟨rb, 2, none⟩ = some (.int .i64 0) := c2
  have g2 : w.drew.frozen? ⟨rb, 2, none⟩ = false := f2
  have hS : (fun wx : World => wx.cell? ⟨rb, 0, none⟩ = some (.string s) ∧ wx.cell? ⟨rb, 1, none⟩ = some (.int .i64 (i : Int)) ∧ wx.cell? ⟨rb, 2, none⟩ = some (.int .i64 ((0 : Nat) : Int))) w.drew := ⟨c0, c1, c2⟩
  have hE := Lib.hid (rd_err (w := w.drew) hr 1)
  have HN := Lib.hid hR
  clear hr hb hR
  go_enter Tryz.func85, Tryz.ntmps85
  go_upto_region 1 with fail
  refine wp_region_seq (fun wx : World => wx.cell? ⟨rb, 0, none⟩ = some (.string s) ∧ wx.cell? ⟨rb, 1, none⟩ = some (.int .i64 (i : Int)) ∧ wx.cell? ⟨rb, 2, none⟩ = some (.int .i64 ((0 : Nat) : Int)))
    [(0, 0), (1, 0), (2, 0), (3, 1), (4, 0), (5, 0), (6, 0), (7, 0), (8, 0), (9, 0), (10, 1), (11, 0), (12, 0), (13, 0), (14, 0), (15, 1), (16, 0), (17, 0), (18, 0)]
    [] (by kernel_rfl) (by kernel_rfl) (fun d _ _ _ _ h => by cases d <;> exact h) ?_
  simp only [picks, List.getD_cons_succ, List.getD_cons_zero]
  (refine seq_pure (v := ?_) (by rfl) ?_ ?_; rotate_left; focus (intro wq; first | (go_simp; done) | (go_simp; with_reducible rfl))); (try simp only [Act.put, List.setIfInBounds_toArray, List.set_cons_zero, List.set_cons_succ])
  (refine seq_pure (v := ?_) (by rfl) ?_ ?_; rotate_left; focus (intro wq; first | (go_simp; done) | (go_simp; with_reducible rfl))); (try simp only [Act.put, List.setIfInBounds_toArray, List.set_cons_zero, List.set_cons_succ])
  (refine seq_pure (v := ?_) (by rfl) ?_ ?_; rotate_left; focus (intro wq; first | (go_simp; done) | (go_simp; with_reducible rfl))); (try simp only [Act.put, List.setIfInBounds_toArray, List.set_cons_zero, List.set_cons_succ])
  (refine seq_read (v := ?_) hS (by rfl) ?_ ?_; rotate_left; focus (intro wq hSq; obtain ⟨hq1, hq2, hq3⟩ := hSq; first | (go_simp; done) | (go_simp; with_reducible rfl))); (try simp only [Act.put, List.setIfInBounds_toArray, List.set_cons_zero, List.set_cons_succ])
  (refine seq_pure (v := ?_) (by rfl) ?_ ?_; rotate_left; focus (intro wq; first | (go_simp; done) | (go_simp; with_reducible rfl))); (try simp only [Act.put, List.setIfInBounds_toArray, List.set_cons_zero, List.set_cons_succ])
  (refine seq_pure (v := ?_) (by rfl) ?_ ?_; rotate_left; focus (intro wq; first | (go_simp; done) | (go_simp; with_reducible rfl))); (try simp only [Act.put, List.setIfInBounds_toArray, List.set_cons_zero, List.set_cons_succ])
  (refine seq_pure (v := ?_) (by rfl) ?_ ?_; rotate_left; focus (intro wq; first | (go_simp; done) | (go_simp; with_reducible rfl))); (try simp only [Act.put, List.setIfInBounds_toArray, List.set_cons_zero, List.set_cons_succ])
  (refine seq_pure (v := ?_) (by rfl) ?_ ?_; rotate_left; focus (intro wq; first | (go_simp; done) | (go_simp; with_reducible rfl))); (try simp only [Act.put, List.setIfInBounds_toArray, List.set_cons_zero, List.set_cons_succ])
  (refine seq_pure (v := ?_) (by rfl) ?_ ?_; rotate_left; focus (intro wq; first | (go_simp; done) | (go_simp; with_reducible rfl))); (try simp only [Act.put, List.setIfInBounds_toArray, List.set_cons_zero, List.set_cons_succ])
  (refine seq_pure (v := ?_) (by rfl) ?_ ?_; rotate_left; focus (intro wq; first | (go_simp; done) | (go_simp; with_reducible rfl))); (try simp only [Act.put, List.setIfInBounds_toArray, List.set_cons_zero, List.set_cons_succ])
  (refine seq_read (v := ?_) hS (by rfl) ?_ ?_; rotate_left; focus (intro wq hSq; obtain ⟨hq1, hq2, hq3⟩ := hSq; first | (go_simp; done) | (go_simp; with_reducible rfl))); (try simp only [Act.put, List.setIfInBounds_toArray, List.set_cons_zero, List.set_cons_succ])
  (refine seq_pure (v := ?_) (by rfl) ?_ ?_; rotate_left; focus (intro wq; first | (go_simp; done) | (go_simp; with_reducible rfl))); (try simp only [Act.put, List.setIfInBounds_toArray, List.set_cons_zero, List.set_cons_succ])
  (refine seq_pure (v := ?_) (by rfl) ?_ ?_; rotate_left; focus (intro wq; first | (go_simp; done) | (go_simp; with_reducible rfl))); (try simp only [Act.put, List.setIfInBounds_toArray, List.set_cons_zero, List.set_cons_succ])
  (refine seq_pure (v := ?_) (by rfl) ?_ ?_; rotate_left; focus (intro wq; first | (go_simp; done) | (go_simp; with_reducible rfl))); (try simp only [Act.put, List.setIfInBounds_toArray, List.set_cons_zero, List.set_cons_succ])
  (refine seq_pure (v := ?_) (by rfl) ?_ ?_; rotate_left; focus (intro wq; first | (go_simp; done) | (go_simp; with_reducible rfl))); (try simp only [Act.put, List.setIfInBounds_toArray, List.set_cons_zero, List.set_cons_succ])
  (refine seq_read (v := ?_) hS (by rfl) ?_ ?_; rotate_left; focus (intro wq hSq; obtain ⟨hq1, hq2, hq3⟩ := hSq; first | (go_simp; done) | (go_simp; with_reducible rfl))); (try simp only [Act.put, List.setIfInBounds_toArray, List.set_cons_zero, List.set_cons_succ])
  (refine seq_pure (v := ?_) (by rfl) ?_ ?_; rotate_left; focus (intro wq; first | (go_simp; done) | (go_simp; with_reducible rfl))); (try simp only [Act.put, List.setIfInBounds_toArray, List.set_cons_zero, List.set_cons_succ])
  (refine seq_pure (v := ?_) (by rfl) ?_ ?_; rotate_left; focus (intro wq; first | (go_simp; done) | (go_simp; with_reducible rfl))); (try simp only [Act.put, List.setIfInBounds_toArray, List.set_cons_zero, List.set_cons_succ])
  (refine seq_pure (v := ?_) (by rfl) ?_ ?_; rotate_left; focus (intro wq; first | (go_simp; done) | (go_simp; with_reducible rfl))); (try simp only [Act.put, List.setIfInBounds_toArray, List.set_cons_zero, List.set_cons_succ])
  refine seq_nil ?_
  clear hwr
  go_wp2_with fail
  go_ret
  exact ⟨(Keeps.refl _ _).drew.setCell (by simp) _, .inr ⟨HN.out, _, _, _, rfl, hE.out, by decide⟩⟩
end Go.Proofs.Sess
namespace Go.Proofs.Sess
open Go Go.RowKit

theorem cut_lt (s : ByteArray) (i n : Nat) : ∀ x ∈ cut s i n, x < 256 := fun x hx => by
  unfold cut at hx
  simp at hx
  obtain ⟨z, _, rfl⟩ := hx
  exact byt_lt _ _

set_option maxRecDepth 100000 in
set_option maxHeartbeats 4000000 in
theorem data_plain (w : World) (rb : Nat) (s : ByteArray) (i kind n : Nat) (hr : w.heap[rb]? = some (RdObj s i 0)) (hs : s.size < 1000000) (hn : n < 65536) (hb : i + n ≤ s.size) (hk : kind ≠ 15 ∧ kind ≠ 2 ∧ kind ≠ 5 ∧ kind ≠ 12) :
    Calls Tryz.prog 85 #[.pointer (some ⟨rb, 0, none⟩), .int .i64 (kind : Int), .int .i64 (n : Int)] w (DataTo w rb s i n (some (cut s i n))) := by
  obtain ⟨k1, k2, k3, k4⟩ := hk
  have j1 : ((kind : Int) == 15) = false := by simp; omega
  have j2 : ((kind : Int) == 2) = false := by simp; omega
  have j3 : ((kind : Int) == 5) = false := by simp; omega
  have j4 : ((kind : Int) == 12) = false := by simp; omega
  have c0 : w.cell? ⟨rb, 0, none⟩ = some (.string s) := cell_of_heap hr rfl
  have c1 : w.cell? ⟨rb, 1, none⟩ = some (.int .i64 (i : Int)) := cell_of_heap hr rfl
  have c2 : w.cell? ⟨rb, 2, none⟩ = some (.int .i64 0) := cell_of_heap hr rfl
  have hwr : IntKind.i64.wrap ((s.size : Int) - (i : Int)) = (s.size : Int) - (i : Int) := IntWalk.i64_in _ (by omega)
  have hgt : (n : Int) ≤ (s.size : Int) - (i : Int) := by omega
  have d2 : w.drew.cell? ⟨rb, 2, none⟩ = some (.int .i64 0) := c2
  have d1 : w.drew.cell? ⟨rb, 1, none⟩ = some (.int .i64 (i : Int)) := c1
  have g1 : w.drew.frozen? ⟨rb, 1, none⟩ = false := free_of_heap (w := w) hr
  have hS : (fun wx : World => wx.cell? ⟨rb, 0, none⟩ = some (.string s) ∧ wx.cell? ⟨rb, 1, none⟩ = some (.int .i64 (i : Int)) ∧ wx.cell? ⟨rb, 2, none⟩ = some (.int .i64 0)) w.drew := ⟨c0, c1, c2⟩
  have hd := rd_at (w := w.drew) hr (i + n)
  have hx : s.extract i (i + n) = strN (cut s i n) := (strN_cut hb).symm
  have e0 : (w.drew.setCell ⟨rb, 1, none⟩ (.int .i64 ((i + n : Nat) : Int))).drew.cell? ⟨rb, 0, none⟩ = some (.string s) := cell_of_heap (w := w.drew.setCell ⟨rb, 1, none⟩ (.int .i64 ((i + n : Nat) : Int))) hd rfl
  have e1 : (w.drew.setCell ⟨rb, 1, none⟩ (.int .i64 ((i + n : Nat) : Int))).drew.cell? ⟨rb, 1, none⟩ = some (.int .i64 ((i + n : Nat) : Int)) := cell_of_heap (w := w.drew.setCell ⟨rb, 1, none⟩ (.int .i64 ((i + n : Nat) : Int))) hd rfl
  have hin : (i : Int) ≤ (i : Int) + (n : Int) := by omega
  have hin2 : (i : Int) + (n : Int) ≤ (s.size : Int) := by omega
  have hni : ((i + n : Nat) : Int) = (i : Int) + (n : Int) := by omega
  have hnt : ((i : Int) + (n : Int)).toNat = i + n := by omega
  rw [hni] at e0 e1
  have hi0 : (0 : Int) ≤ (i : Int) := by omega
  have HD := Lib.hid hd
  have HNI := Lib.hid hni
  clear hr hb k1 k2 k3 k4 hd hni
  go_enter Tryz.func85, Tryz.ntmps85
  go_upto_region 1 with fail
  refine wp_region_seq (fun wx : World => wx.cell? ⟨rb, 0, none⟩ = some (.string s) ∧ wx.cell? ⟨rb, 1, none⟩ = some (.int .i64 (i : Int)) ∧ wx.cell? ⟨rb, 2, none⟩ = some (.int .i64 0))
    [(0, 0), (1, 0), (2, 0), (3, 1), (4, 0), (5, 0), (6, 0), (7, 0), (8, 0), (9, 0), (10, 1), (11, 0), (12, 0), (13, 0), (14, 0), (15, 1), (16, 0), (17, 0), (18, 0)]
    [] (by kernel_rfl) (by kernel_rfl) (fun d _ _ _ _ h => by cases d <;> exact h) ?_
  simp only [picks, List.getD_cons_succ, List.getD_cons_zero]
  (refine seq_pure (v := ?_) (by rfl) ?_ ?_; rotate_left; focus (intro wq; first | (go_simp; done) | (go_simp; with_reducible rfl))); (try simp only [Act.put, List.setIfInBounds_toArray, List.set_cons_zero, List.set_cons_succ])
  (refine seq_pure (v := ?_) (by rfl) ?_ ?_; rotate_left; focus (intro wq; first | (go_simp; done) | (go_simp; with_reducible rfl))); (try simp only [Act.put, List.setIfInBounds_toArray, List.set_cons_zero, List.set_cons_succ])
  (refine seq_pure (v := ?_) (by rfl) ?_ ?_; rotate_left; focus (intro wq; first | (go_simp; done) | (go_simp; with_reducible rfl))); (try simp only [Act.put, List.setIfInBounds_toArray, List.set_cons_zero, List.set_cons_succ])
  (refine seq_read (v := ?_) hS (by rfl) ?_ ?_; rotate_left; focus (intro wq hSq; obtain ⟨hq1, hq2, hq3⟩ := hSq; first | (go_simp; done) | (go_simp; with_reducible rfl))); (try simp only [Act.put, List.setIfInBounds_toArray, List.set_cons_zero, List.set_cons_succ])
  (refine seq_pure (v := ?_) (by rfl) ?_ ?_; rotate_left; focus (intro wq; first | (go_simp; done) | (go_simp; with_reducible rfl))); (try simp only [Act.put, List.setIfInBounds_toArray, List.set_cons_zero, List.set_cons_succ])
  (refine seq_pure (v := ?_) (by rfl) ?_ ?_; rotate_left; focus (intro wq; first | (go_simp; done) | (go_simp; with_reducible rfl))); (try simp only [Act.put, List.setIfInBounds_toArray, List.set_cons_zero, List.set_cons_succ])
  (refine seq_pure (v := ?_) (by rfl) ?_ ?_; rotate_left; focus (intro wq; first | (go_simp; done) | (go_simp; with_reducible rfl))); (try simp only [Act.put, List.setIfInBounds_toArray, List.set_cons_zero, List.set_cons_succ])
  (refine seq_pure (v := ?_) (by rfl) ?_ ?_; rotate_left; focus (intro wq; first | (go_simp; done) | (go_simp; with_reducible rfl))); (try simp only [Act.put, List.setIfInBounds_toArray, List.set_cons_zero, List.set_cons_succ])
  (refine seq_pure (v := ?_) (by rfl) ?_ ?_; rotate_left; focus (intro wq; first | (go_simp; done) | (go_simp; with_reducible rfl))); (try simp only [Act.put, List.setIfInBounds_toArray, List.set_cons_zero, List.set_cons_succ])
  (refine seq_pure (v := ?_) (by rfl) ?_ ?_; rotate_left; focus (intro wq; first | (go_simp; done) | (go_simp; with_reducible rfl))); (try simp only [Act.put, List.setIfInBounds_toArray, List.set_cons_zero, List.set_cons_succ])
  (refine seq_read (v := ?_) hS (by rfl) ?_ ?_; rotate_left; focus (intro wq hSq; obtain ⟨hq1, hq2, hq3⟩ := hSq; first | (go_simp; done) | (go_simp; with_reducible rfl))); (try simp only [Act.put, List.setIfInBounds_toArray, List.set_cons_zero, List.set_cons_succ])
  (refine seq_pure (v := ?_) (by rfl) ?_ ?_; rotate_left; focus (intro wq; first | (go_simp; done) | (go_simp; with_reducible rfl))); (try simp only [Act.put, List.setIfInBounds_toArray, List.set_cons_zero, List.set_cons_succ])
  (refine seq_pure (v := ?_) (by rfl) ?_ ?_; rotate_left; focus (intro wq; first | (go_simp; done) | (go_simp; with_reducible rfl))); (try simp only [Act.put, List.setIfInBounds_toArray, List.set_cons_zero, List.set_cons_succ])
  (refine seq_pure (v := ?_) (by rfl) ?_ ?_; rotate_left; focus (intro wq; first | (go_simp; done) | (go_simp; with_reducible rfl))); (try simp only [Act.put, List.setIfInBounds_toArray, List.set_cons_zero, List.set_cons_succ])
  (refine seq_pure (v := ?_) (by rfl) ?_ ?_; rotate_left; focus (intro wq; first | (go_simp; done) | (go_simp; with_reducible rfl))); (try simp only [Act.put, List.setIfInBounds_toArray, List.set_cons_zero, List.set_cons_succ])
  (refine seq_read (v := ?_) hS (by rfl) ?_ ?_; rotate_left; focus (intro wq hSq; obtain ⟨hq1, hq2, hq3⟩ := hSq; first | (go_simp; done) | (go_simp; with_reducible rfl))); (try simp only [Act.put, List.setIfInBounds_toArray, List.set_cons_zero, List.set_cons_succ])
  (refine seq_pure (v := ?_) (by rfl) ?_ ?_; rotate_left; focus (intro wq; first | (go_simp; done) | (go_simp; with_reducible rfl))); (try simp only [Act.put, List.setIfInBounds_toArray, List.set_cons_zero, List.set_cons_succ])
  (refine seq_pure (v := ?_) (by rfl) ?_ ?_; rotate_left; focus (intro wq; first | (go_simp; done) | (go_simp; with_reducible rfl))); (try simp only [Act.put, List.setIfInBounds_toArray, List.set_cons_zero, List.set_cons_succ])
  (refine seq_pure (v := ?_) (by rfl) ?_ ?_; rotate_left; focus (intro wq; first | (go_simp; done) | (go_simp; with_reducible rfl))); (try simp only [Act.put, List.setIfInBounds_toArray, List.set_cons_zero, List.set_cons_succ])
  refine seq_nil ?_
  clear hwr
  go_upto_region 9 with fail
  have hS : (fun wx : World => wx.cell? ⟨rb, 0, none⟩ = some (.string s) ∧ wx.cell? ⟨rb, 1, none⟩ = some (.int .i64 ((i : Int) + (n : Int)))) (w.drew.setCell ⟨rb, 1, none⟩ (.int .i64 ((i : Int) + (n : Int)))).drew := ⟨e0, e1⟩
  refine wp_region_seq (fun wx : World => wx.cell? ⟨rb, 0, none⟩ = some (.string s) ∧ wx.cell? ⟨rb, 1, none⟩ = some (.int .i64 ((i : Int) + (n : Int))))
    [(0, 0), (1, 0), (2, 0), (3, 1), (4, 0), (5, 0), (6, 0), (7, 0), (8, 1), (9, 0), (10, 0)]
    [] (by kernel_rfl) (by kernel_rfl) (fun d _ _ _ _ h => by cases d <;> exact h) ?_
  simp only [picks, List.getD_cons_succ, List.getD_cons_zero]
  (refine seq_pure (v := ?_) (by rfl) ?_ ?_; rotate_left; focus (intro wq; first | (go_simp; done) | (go_simp; with_reducible rfl))); (try simp only [Act.put, List.setIfInBounds_toArray, List.set_cons_zero, List.set_cons_succ])
  (refine seq_pure (v := ?_) (by rfl) ?_ ?_; rotate_left; focus (intro wq; first | (go_simp; done) | (go_simp; with_reducible rfl))); (try simp only [Act.put, List.setIfInBounds_toArray, List.set_cons_zero, List.set_cons_succ])
  (refine seq_pure (v := ?_) (by rfl) ?_ ?_; rotate_left; focus (intro wq; first | (go_simp; done) | (go_simp; with_reducible rfl))); (try simp only [Act.put, List.setIfInBounds_toArray, List.set_cons_zero, List.set_cons_succ])
  (refine seq_read (v := ?_) hS (by rfl) ?_ ?_; rotate_left; focus (intro wq hSq; obtain ⟨hq1, hq2⟩ := hSq; first | (go_simp; done) | (go_simp; with_reducible rfl))); (try simp only [Act.put, List.setIfInBounds_toArray, List.set_cons_zero, List.set_cons_succ])
  (refine seq_pure (v := ?_) (by rfl) ?_ ?_; rotate_left; focus (intro wq; first | (go_simp; done) | (go_simp; with_reducible rfl))); (try simp only [Act.put, List.setIfInBounds_toArray, List.set_cons_zero, List.set_cons_succ])
  (refine seq_pure (v := ?_) (by rfl) ?_ ?_; rotate_left; focus (intro wq; first | (go_simp; done) | (go_simp; with_reducible rfl))); (try simp only [Act.put, List.setIfInBounds_toArray, List.set_cons_zero, List.set_cons_succ])
  (refine seq_pure (v := ?_) (by rfl) ?_ ?_; rotate_left; focus (intro wq; first | (go_simp; done) | (go_simp; with_reducible rfl))); (try simp only [Act.put, List.setIfInBounds_toArray, List.set_cons_zero, List.set_cons_succ])
  (refine seq_pure (v := ?_) (by rfl) ?_ ?_; rotate_left; focus (intro wq; first | (go_simp; done) | (go_simp; with_reducible rfl))); (try simp only [Act.put, List.setIfInBounds_toArray, List.set_cons_zero, List.set_cons_succ])
  (refine seq_read (v := ?_) hS (by rfl) ?_ ?_; rotate_left; focus (intro wq hSq; obtain ⟨hq1, hq2⟩ := hSq; first | (go_simp; done) | (go_simp; with_reducible rfl))); (try simp only [Act.put, List.setIfInBounds_toArray, List.set_cons_zero, List.set_cons_succ])
  (refine seq_pure (v := ?_) (by rfl) ?_ ?_; rotate_left; focus (intro wq; first | (go_simp; done) | (go_simp; with_reducible rfl))); (try simp only [Act.put, List.setIfInBounds_toArray, List.set_cons_zero, List.set_cons_succ])
  (refine seq_pure (v := ?_) (by rfl) ?_ ?_; rotate_left; focus (intro wq; first | (go_simp; done) | (go_simp; with_reducible rfl))); (try simp only [Act.put, List.setIfInBounds_toArray, List.set_cons_zero, List.set_cons_succ])
  refine seq_nil ?_
  go_wp2_with fail
  go_ret
  have hd := HD.out
  rw [HNI.out] at hd
  exact ⟨(((Keeps.refl _ _).drew).setCell (by simp) _).drew, .inl ⟨_, rfl, cut_lt _ _ _, rfl, hd⟩⟩

/-- Behind the name in the data. -/
def AfterName (_s : ByteArray) (i n : Nat) (nm : Option (List Nat × Nat)) : Option (List Nat) := match nm with
  | some (l, j) => if j = i + n then some l else none
  | none => none

theorem afterName_yes {s : ByteArray} {i n j : Nat} {l : List Nat} (h : j = i + n) : AfterName s i n (some (l, j)) = some l := if_pos h
theorem afterName_no {s : ByteArray} {i n j : Nat} {l : List Nat} (h : j ≠ i + n) : AfterName s i n (some (l, j)) = none := if_neg h

set_option maxRecDepth 100000 in
set_option maxHeartbeats 4000000 in
theorem data_name (w : World) (rb : Nat) (s : ByteArray) (i kind n : Nat) (hr : w.heap[rb]? = some (RdObj s i 0)) (hs : s.size < 1000000) (hn : n < 65536) (hb : i + n ≤ s.size) (hk : kind = 2 ∨ kind = 5 ∨ kind = 12) :
    Calls Tryz.prog 85 #[.pointer (some ⟨rb, 0, none⟩), .int .i64 (kind : Int), .int .i64 (n : Int)] w (DataTo w rb s i n (AfterName s i n (nameP s i i 0 0 [] none))) := by
  have c0 : w.cell? ⟨rb, 0, none⟩ = some (.string s) := cell_of_heap hr rfl
  have c1 : w.cell? ⟨rb, 1, none⟩ = some (.int .i64 (i : Int)) := cell_of_heap hr rfl
  have c2 : w.cell? ⟨rb, 2, none⟩ = some (.int .i64 0) := cell_of_heap hr rfl
  have hwr : IntKind.i64.wrap ((s.size : Int) - (i : Int)) = (s.size : Int) - (i : Int) := IntWalk.i64_in _ (by omega)
  have hgt : (n : Int) ≤ (s.size : Int) - (i : Int) := by omega
  have d2 : w.drew.cell? ⟨rb, 2, none⟩ = some (.int .i64 0) := c2
  have d1 : w.drew.cell? ⟨rb, 1, none⟩ = some (.int .i64 (i : Int)) := c1
  have g1 : w.drew.frozen? ⟨rb, 1, none⟩ = false := free_of_heap (w := w) hr
  have hS : (fun wx : World => wx.cell? ⟨rb, 0, none⟩ = some (.string s) ∧ wx.cell? ⟨rb, 1, none⟩ = some (.int .i64 (i : Int)) ∧ wx.cell? ⟨rb, 2, none⟩ = some (.int .i64 0)) w.drew := ⟨c0, c1, c2⟩
  have hna := name_any w.drew rb s i hr hs (by omega)
  generalize nameP s i i 0 0 [] none = R at *
  have HNA := Lib.hid hna
  have hil : (i : Int) + (n : Int) ≤ 1000000 := by omega
  have hi0 : (0 : Int) ≤ (i : Int) := by omega
  have hn0 : (0 : Int) ≤ (n : Int) := by omega
  clear hr hna hb
  rcases hk with rfl | rfl | rfl
  all_goals
    go_enter Tryz.func85, Tryz.ntmps85
    go_upto_region 1 with fail
    refine wp_region_seq (fun wx : World => wx.cell? ⟨rb, 0, none⟩ = some (.string s) ∧ wx.cell? ⟨rb, 1, none⟩ = some (.int .i64 (i : Int)) ∧ wx.cell? ⟨rb, 2, none⟩ = some (.int .i64 0))
      [(0, 0), (1, 0), (2, 0), (3, 1), (4, 0), (5, 0), (6, 0), (7, 0), (8, 0), (9, 0), (10, 1), (11, 0), (12, 0), (13, 0), (14, 0), (15, 1), (16, 0), (17, 0), (18, 0)]
      [] (by kernel_rfl) (by kernel_rfl) (fun d _ _ _ _ h => by cases d <;> exact h) ?_
    simp only [picks, List.getD_cons_succ, List.getD_cons_zero]
    (refine seq_pure (v := ?_) (by rfl) ?_ ?_; rotate_left; focus (intro wq; first | (go_simp; done) | (go_simp; with_reducible rfl))); (try simp only [Act.put, List.setIfInBounds_toArray, List.set_cons_zero, List.set_cons_succ])
    (refine seq_pure (v := ?_) (by rfl) ?_ ?_; rotate_left; focus (intro wq; first | (go_simp; done) | (go_simp; with_reducible rfl))); (try simp only [Act.put, List.setIfInBounds_toArray, List.set_cons_zero, List.set_cons_succ])
    (refine seq_pure (v := ?_) (by rfl) ?_ ?_; rotate_left; focus (intro wq; first | (go_simp; done) | (go_simp; with_reducible rfl))); (try simp only [Act.put, List.setIfInBounds_toArray, List.set_cons_zero, List.set_cons_succ])
    (refine seq_read (v := ?_) hS (by rfl) ?_ ?_; rotate_left; focus (intro wq hSq; obtain ⟨hq1, hq2, hq3⟩ := hSq; first | (go_simp; done) | (go_simp; with_reducible rfl))); (try simp only [Act.put, List.setIfInBounds_toArray, List.set_cons_zero, List.set_cons_succ])
    (refine seq_pure (v := ?_) (by rfl) ?_ ?_; rotate_left; focus (intro wq; first | (go_simp; done) | (go_simp; with_reducible rfl))); (try simp only [Act.put, List.setIfInBounds_toArray, List.set_cons_zero, List.set_cons_succ])
    (refine seq_pure (v := ?_) (by rfl) ?_ ?_; rotate_left; focus (intro wq; first | (go_simp; done) | (go_simp; with_reducible rfl))); (try simp only [Act.put, List.setIfInBounds_toArray, List.set_cons_zero, List.set_cons_succ])
    (refine seq_pure (v := ?_) (by rfl) ?_ ?_; rotate_left; focus (intro wq; first | (go_simp; done) | (go_simp; with_reducible rfl))); (try simp only [Act.put, List.setIfInBounds_toArray, List.set_cons_zero, List.set_cons_succ])
    (refine seq_pure (v := ?_) (by rfl) ?_ ?_; rotate_left; focus (intro wq; first | (go_simp; done) | (go_simp; with_reducible rfl))); (try simp only [Act.put, List.setIfInBounds_toArray, List.set_cons_zero, List.set_cons_succ])
    (refine seq_pure (v := ?_) (by rfl) ?_ ?_; rotate_left; focus (intro wq; first | (go_simp; done) | (go_simp; with_reducible rfl))); (try simp only [Act.put, List.setIfInBounds_toArray, List.set_cons_zero, List.set_cons_succ])
    (refine seq_pure (v := ?_) (by rfl) ?_ ?_; rotate_left; focus (intro wq; first | (go_simp; done) | (go_simp; with_reducible rfl))); (try simp only [Act.put, List.setIfInBounds_toArray, List.set_cons_zero, List.set_cons_succ])
    (refine seq_read (v := ?_) hS (by rfl) ?_ ?_; rotate_left; focus (intro wq hSq; obtain ⟨hq1, hq2, hq3⟩ := hSq; first | (go_simp; done) | (go_simp; with_reducible rfl))); (try simp only [Act.put, List.setIfInBounds_toArray, List.set_cons_zero, List.set_cons_succ])
    (refine seq_pure (v := ?_) (by rfl) ?_ ?_; rotate_left; focus (intro wq; first | (go_simp; done) | (go_simp; with_reducible rfl))); (try simp only [Act.put, List.setIfInBounds_toArray, List.set_cons_zero, List.set_cons_succ])
    (refine seq_pure (v := ?_) (by rfl) ?_ ?_; rotate_left; focus (intro wq; first | (go_simp; done) | (go_simp; with_reducible rfl))); (try simp only [Act.put, List.setIfInBounds_toArray, List.set_cons_zero, List.set_cons_succ])
    (refine seq_pure (v := ?_) (by rfl) ?_ ?_; rotate_left; focus (intro wq; first | (go_simp; done) | (go_simp; with_reducible rfl))); (try simp only [Act.put, List.setIfInBounds_toArray, List.set_cons_zero, List.set_cons_succ])
    (refine seq_pure (v := ?_) (by rfl) ?_ ?_; rotate_left; focus (intro wq; first | (go_simp; done) | (go_simp; with_reducible rfl))); (try simp only [Act.put, List.setIfInBounds_toArray, List.set_cons_zero, List.set_cons_succ])
    (refine seq_read (v := ?_) hS (by rfl) ?_ ?_; rotate_left; focus (intro wq hSq; obtain ⟨hq1, hq2, hq3⟩ := hSq; first | (go_simp; done) | (go_simp; with_reducible rfl))); (try simp only [Act.put, List.setIfInBounds_toArray, List.set_cons_zero, List.set_cons_succ])
    (refine seq_pure (v := ?_) (by rfl) ?_ ?_; rotate_left; focus (intro wq; first | (go_simp; done) | (go_simp; with_reducible rfl))); (try simp only [Act.put, List.setIfInBounds_toArray, List.set_cons_zero, List.set_cons_succ])
    (refine seq_pure (v := ?_) (by rfl) ?_ ?_; rotate_left; focus (intro wq; first | (go_simp; done) | (go_simp; with_reducible rfl))); (try simp only [Act.put, List.setIfInBounds_toArray, List.set_cons_zero, List.set_cons_succ])
    (refine seq_pure (v := ?_) (by rfl) ?_ ?_; rotate_left; focus (intro wq; first | (go_simp; done) | (go_simp; with_reducible rfl))); (try simp only [Act.put, List.setIfInBounds_toArray, List.set_cons_zero, List.set_cons_succ])
    refine seq_nil ?_
    clear hwr
    go_upto_region 17 with (go_at_call 83; refine HNA.out.mono ?_; rintro en w2 hq; have H2 := Lib.hid hq; clear hq
                            have hq : ∃ v i2 e2, en = .returned (.string v) ∧ w2.heap[rb]? = some (RdObj s i2 e2) ∧ ((∃ nm, R = some (nm, i2) ∧ (∀ x ∈ nm, x < 256) ∧ v = strN nm ∧ e2 = 0) ∨ (R = none ∧ e2 ≠ 0)) := by
                              rcases H2.out.2 with ⟨nm, j, h1, h2, h3, h4⟩ | ⟨h1, v, i', e', h2, h3, h4⟩
                              · exact ⟨_, j, 0, h3, h4, .inl ⟨nm, h1, h2, rfl, rfl⟩⟩
                              · exact ⟨v, i', e', h2, h3, .inr ⟨h1, h4.1⟩⟩
                            obtain ⟨v, i2, e2, rfl, hd2, hw2⟩ := hq
                            have m1 : w2.cell? ⟨rb, 1, none⟩ = some (.int .i64 (i2 : Int)) := cell_of_heap hd2 rfl
                            have HD2 := Lib.hid (And.intro hd2 hw2)
                            clear hd2 hw2)
    by_cases he : i2 = i + n
    · have hei : ((i2 : Int) != (i : Int) + (n : Int)) = false := by simp; omega
      go_wp2_with fail
      go_ret
      refine ⟨(Keeps.refl _ w).drew.trans H2.out.1 (fun _ h _ => h), ?_⟩
      rcases HD2.out.2 with ⟨nm, h1, h2, rfl, rfl⟩ | ⟨h1, h2⟩
      · left
        exact ⟨nm, by rw [h1]; exact afterName_yes he, h2, rfl, by rw [← he]; exact HD2.out.1⟩
      · right
        exact ⟨by rw [h1]; rfl, v, i2, e2, rfl, HD2.out.1, h2⟩
    · have hei : ((i2 : Int) != (i : Int) + (n : Int)) = true := by simp; omega
      go_wp2_with (go_at_call 108; have hf := fail_any w2 rb s i2 e2 2 HD2.out.1; rw [failE] at hf; refine hf.mono ?_; rintro e4 w4 ⟨rfl, h4, k4⟩; have H4 := Lib.hid (And.intro h4 k4); clear h4 k4 hf)
      go_ret
      refine ⟨((Keeps.refl _ w).drew.trans H2.out.1 (fun _ h _ => h)).trans H4.out.2 (fun _ h _ => h), .inr ⟨?_, v, i2, classE 0 e2, rfl, H4.out.1, ?_⟩⟩
      · rcases HD2.out.2 with ⟨nm, h1, h2, rfl, rfl⟩ | ⟨h1, h2⟩
        · rw [h1]; exact afterName_no he
        · rw [h1]; rfl
      · unfold classE; rw [if_neg (by decide)]; split <;> omega
end Go.Proofs.Sess
namespace Go.Proofs.Sess
open Go Go.RowKit

/-- name, after whatever. -/
theorem name_gen (w : World) (rb : Nat) (s : ByteArray) (j e : Nat) (hr : w.heap[rb]? = some (RdObj s j e)) (hs : s.size < 1000000) (hj : e = 0 → j ≤ s.size) :
    Calls Tryz.prog 83 #[.pointer (some ⟨rb, 0, none⟩)] w (Named w rb s (if e = 0 then nameP s j j 0 0 [] none else none)) := by
  by_cases he : e = 0
  · subst he
    rw [if_pos rfl]
    exact name_any w rb s j hr hs (hj rfl)
  · rw [if_neg he]
    refine (name_err w rb s j e hr he).mono ?_
    rintro en w' ⟨rfl, h1, h2⟩
    exact ⟨h2, .inr ⟨rfl, _, j, e, rfl, h1, he, by decide⟩⟩

theorem labelOut_len {s : ByteArray} {i count n : Nat} {out o : List Nat} (hc0 : count = 0 ∨ 1 ≤ out.length) (hn : n ≠ 0) (ho : count = 0 → out = []) (h : labelOut s i count out n = some o) : o.length ≤ 253 ∧ 1 ≤ o.length := by
  unfold labelOut at h
  split at h
  · cases h
  · rename_i hc
    split at h
    · simp only [Option.some.injEq] at h
      subst h
      have h1 : (cut s i n).length = n := by simp [cut]
      simp only [List.length_append, List.length_map, h1]
      by_cases h0 : count = 0
      · rw [if_pos h0, ho h0]; rw [ho h0] at hc; simp at hc ⊢; omega
      · rw [if_neg h0]
        have : 1 ≤ out.length := hc0.resolve_left h0
        have hm : min out.length 1 = 1 := by omega
        rw [hm] at hc
        simp; omega
    · cases h

/-- A name has 253 bytes at most. -/
theorem nameP_len {s : ByteArray} : ∀ (m at_ lim jumps count : Nat) (out : List Nat) (en : Option Nat) (nm : List Nat) (j : Nat), lim * (s.size + 1) + (s.size - at_) ≤ m → out.length ≤ 253 → (count = 0 ∨ 1 ≤ out.length) → (count = 0 → out = []) → nameP s at_ lim jumps count out en = some (nm, j) → nm.length ≤ 253 := by
  intro m
  induction m with
  | zero =>
    intro at_ lim jumps count out en nm j hm ho hc hz h
    by_cases hs : s.size ≤ at_
    · rw [nameP_short hs] at h; cases h
    · omega
  | succ m ih =>
    intro at_ lim jumps count out en nm j hm ho hc hz h
    by_cases hs : s.size ≤ at_
    · rw [nameP_short hs] at h; cases h
    · have hlt : at_ < s.size := by omega
      by_cases h0 : byt s at_ = 0
      · rw [nameP_zero hlt h0] at h
        simp only [Option.some.injEq, Prod.mk.injEq] at h
        rw [← h.1]; exact ho
      · by_cases h63 : byt s at_ ≤ 63
        · rw [nameP_label hlt h0 h63] at h
          split at h
          · cases h
          · rename_i o hl
            exact ih (at_ + 1 + byt s at_) lim jumps (count + 1) o en nm j (by omega) (labelOut_len hc h0 hz hl).1 (.inr (labelOut_len hc h0 hz hl).2) (by omega) h
        · by_cases h192 : byt s at_ < 192
          · rw [nameP_mid hlt (by omega) h192] at h; cases h
          · by_cases h1 : s.size ≤ at_ + 1
            · rw [nameP_cut hlt (by omega) h1] at h; cases h
            · by_cases hb : lim ≤ byt s at_ % 64 * 256 + byt s (at_ + 1) ∨ 24 < jumps + 1
              · rw [nameP_bad hlt (by omega) hb] at h; cases h
              · rw [nameP_jump (by omega) (by omega) hb] at h
                have hl := name_less (S := s.size) (i := at_) (show byt s at_ % 64 * 256 + byt s (at_ + 1) < lim by omega)
                exact ih _ _ _ _ _ _ nm j (by omega) ho hc hz h

/-- What name gives, its cells by name. -/
theorem named_out {w : World} {rb : Nat} {s : ByteArray} {at_ e : Nat} {en : Ending} {w' : World} (h : Named w rb s (if e = 0 then nameP s at_ at_ 0 0 [] none else none) en w') :
    ∃ v i4 e4, en = .returned (.string v) ∧ w'.heap[rb]? = some (RdObj s i4 e4) ∧ v.size ≤ 253 ∧ ((∃ nm, (if e = 0 then nameP s at_ at_ 0 0 [] none else none) = some (nm, i4) ∧ (∀ x ∈ nm, x < 256) ∧ v = strN nm ∧ e4 = 0) ∨ ((if e = 0 then nameP s at_ at_ 0 0 [] none else none) = none ∧ e4 ≠ 0)) := by
  rcases h.2 with ⟨nm, j, h1, h2, h3, h4⟩ | ⟨h1, v, i', e', h2, h3, h4⟩
  · refine ⟨_, j, 0, h3, h4, ?_, .inl ⟨nm, h1, h2, rfl, rfl⟩⟩
    have hl : nm.length ≤ 253 := by
      by_cases he : e = 0
      · rw [if_pos he] at h1
        exact nameP_len _ _ _ _ _ _ _ nm j (Nat.le_refl _) (by simp) (.inl rfl) (fun _ => rfl) h1
      · rw [if_neg he] at h1; cases h1
    have : (strN nm).size = nm.length := by simp [strN, ByteArray.size]
    omega
  · exact ⟨v, i', e', h2, h3, h4.2, .inr ⟨h1, h4.1⟩⟩

/-- Two bytes of a block as a string. -/
theorem two_convert {w : World} {q a b : Nat} (h : w.heap[q]? = some (.cells #[.int .u8 (a : Int), .int .u8 (b : Int)] 5 (0, 0))) (ha : a < 256) (hb : b < 256) : (convert 75 9 (.slice (some ⟨q, 0, none⟩) 2 2)).run Tryz.prog w = .ok (.string (strN [a, b])) w := by
  refine box_convert (out := [a, b]) ?_ (by simp; exact ⟨ha, hb⟩)
  exact ⟨rfl, .inr ⟨q, 2, _, rfl, Nat.zero_le _, h, by simp, by unfold maxLen; decide, rfl, rfl⟩⟩

theorem strN_append (a b : List Nat) : strN a ++ strN b = strN (a ++ b) := by
  apply ByteArray.ext
  simp [strN]

/-- What the data of an exchange is. -/
def AfterTwo (s : ByteArray) (i n : Nat) : Option (List Nat) :=
  if s.size < i + 2 then none else (AfterName s i n (nameP s (i + 2) (i + 2) 0 0 [] none)).map fun nm => cut s i 2 ++ nm

set_option maxRecDepth 100000 in
set_option maxHeartbeats 8000000 in
theorem data_mx (w : World) (rb : Nat) (s : ByteArray) (i n : Nat) (hr : w.heap[rb]? = some (RdObj s i 0)) (hs : s.size < 1000000) (hn : n < 65536) (hb : i + n ≤ s.size) :
    Calls Tryz.prog 85 #[.pointer (some ⟨rb, 0, none⟩), .int .i64 15, .int .i64 (n : Int)] w (DataTo w rb s i n (AfterTwo s i n)) := by
  have c0 : w.cell? ⟨rb, 0, none⟩ = some (.string s) := cell_of_heap hr rfl
  have c1 : w.cell? ⟨rb, 1, none⟩ = some (.int .i64 (i : Int)) := cell_of_heap hr rfl
  have c2 : w.cell? ⟨rb, 2, none⟩ = some (.int .i64 0) := cell_of_heap hr rfl
  have hwr : IntKind.i64.wrap ((s.size : Int) - (i : Int)) = (s.size : Int) - (i : Int) := IntWalk.i64_in _ (by omega)
  have hgt : (n : Int) ≤ (s.size : Int) - (i : Int) := by omega
  have d2 : w.drew.cell? ⟨rb, 2, none⟩ = some (.int .i64 0) := c2
  have d1 : w.drew.cell? ⟨rb, 1, none⟩ = some (.int .i64 (i : Int)) := c1
  have g1 : w.drew.frozen? ⟨rb, 1, none⟩ = false := free_of_heap (w := w) hr
  have hS : (fun wx : World => wx.cell? ⟨rb, 0, none⟩ = some (.string s) ∧ wx.cell? ⟨rb, 1, none⟩ = some (.int .i64 (i : Int)) ∧ wx.cell? ⟨rb, 2, none⟩ = some (.int .i64 0)) w.drew := ⟨c0, c1, c2⟩
  have hrd : w.drew.heap[rb]? = some (RdObj s i 0) := hr
  have hA := Lib.hid hrd
  have hil : (i : Int) + (n : Int) ≤ 1000000 := by omega
  have hi0 : (0 : Int) ≤ (i : Int) := by omega
  have hn0 : (0 : Int) ≤ (n : Int) := by omega
  clear hr hb hrd
  go_enter Tryz.func85, Tryz.ntmps85
  go_upto_region 1 with fail
  refine wp_region_seq (fun wx : World => wx.cell? ⟨rb, 0, none⟩ = some (.string s) ∧ wx.cell? ⟨rb, 1, none⟩ = some (.int .i64 (i : Int)) ∧ wx.cell? ⟨rb, 2, none⟩ = some (.int .i64 0))
    [(0, 0), (1, 0), (2, 0), (3, 1), (4, 0), (5, 0), (6, 0), (7, 0), (8, 0), (9, 0), (10, 1), (11, 0), (12, 0), (13, 0), (14, 0), (15, 1), (16, 0), (17, 0), (18, 0)]
    [] (by kernel_rfl) (by kernel_rfl) (fun d _ _ _ _ h => by cases d <;> exact h) ?_
  simp only [picks, List.getD_cons_succ, List.getD_cons_zero]
  (refine seq_pure (v := ?_) (by rfl) ?_ ?_; rotate_left; focus (intro wq; first | (go_simp; done) | (go_simp; with_reducible rfl))); (try simp only [Act.put, List.setIfInBounds_toArray, List.set_cons_zero, List.set_cons_succ])
  (refine seq_pure (v := ?_) (by rfl) ?_ ?_; rotate_left; focus (intro wq; first | (go_simp; done) | (go_simp; with_reducible rfl))); (try simp only [Act.put, List.setIfInBounds_toArray, List.set_cons_zero, List.set_cons_succ])
  (refine seq_pure (v := ?_) (by rfl) ?_ ?_; rotate_left; focus (intro wq; first | (go_simp; done) | (go_simp; with_reducible rfl))); (try simp only [Act.put, List.setIfInBounds_toArray, List.set_cons_zero, List.set_cons_succ])
  (refine seq_read (v := ?_) hS (by rfl) ?_ ?_; rotate_left; focus (intro wq hSq; obtain ⟨hq1, hq2, hq3⟩ := hSq; first | (go_simp; done) | (go_simp; with_reducible rfl))); (try simp only [Act.put, List.setIfInBounds_toArray, List.set_cons_zero, List.set_cons_succ])
  (refine seq_pure (v := ?_) (by rfl) ?_ ?_; rotate_left; focus (intro wq; first | (go_simp; done) | (go_simp; with_reducible rfl))); (try simp only [Act.put, List.setIfInBounds_toArray, List.set_cons_zero, List.set_cons_succ])
  (refine seq_pure (v := ?_) (by rfl) ?_ ?_; rotate_left; focus (intro wq; first | (go_simp; done) | (go_simp; with_reducible rfl))); (try simp only [Act.put, List.setIfInBounds_toArray, List.set_cons_zero, List.set_cons_succ])
  (refine seq_pure (v := ?_) (by rfl) ?_ ?_; rotate_left; focus (intro wq; first | (go_simp; done) | (go_simp; with_reducible rfl))); (try simp only [Act.put, List.setIfInBounds_toArray, List.set_cons_zero, List.set_cons_succ])
  (refine seq_pure (v := ?_) (by rfl) ?_ ?_; rotate_left; focus (intro wq; first | (go_simp; done) | (go_simp; with_reducible rfl))); (try simp only [Act.put, List.setIfInBounds_toArray, List.set_cons_zero, List.set_cons_succ])
  (refine seq_pure (v := ?_) (by rfl) ?_ ?_; rotate_left; focus (intro wq; first | (go_simp; done) | (go_simp; with_reducible rfl))); (try simp only [Act.put, List.setIfInBounds_toArray, List.set_cons_zero, List.set_cons_succ])
  (refine seq_pure (v := ?_) (by rfl) ?_ ?_; rotate_left; focus (intro wq; first | (go_simp; done) | (go_simp; with_reducible rfl))); (try simp only [Act.put, List.setIfInBounds_toArray, List.set_cons_zero, List.set_cons_succ])
  (refine seq_read (v := ?_) hS (by rfl) ?_ ?_; rotate_left; focus (intro wq hSq; obtain ⟨hq1, hq2, hq3⟩ := hSq; first | (go_simp; done) | (go_simp; with_reducible rfl))); (try simp only [Act.put, List.setIfInBounds_toArray, List.set_cons_zero, List.set_cons_succ])
  (refine seq_pure (v := ?_) (by rfl) ?_ ?_; rotate_left; focus (intro wq; first | (go_simp; done) | (go_simp; with_reducible rfl))); (try simp only [Act.put, List.setIfInBounds_toArray, List.set_cons_zero, List.set_cons_succ])
  (refine seq_pure (v := ?_) (by rfl) ?_ ?_; rotate_left; focus (intro wq; first | (go_simp; done) | (go_simp; with_reducible rfl))); (try simp only [Act.put, List.setIfInBounds_toArray, List.set_cons_zero, List.set_cons_succ])
  (refine seq_pure (v := ?_) (by rfl) ?_ ?_; rotate_left; focus (intro wq; first | (go_simp; done) | (go_simp; with_reducible rfl))); (try simp only [Act.put, List.setIfInBounds_toArray, List.set_cons_zero, List.set_cons_succ])
  (refine seq_pure (v := ?_) (by rfl) ?_ ?_; rotate_left; focus (intro wq; first | (go_simp; done) | (go_simp; with_reducible rfl))); (try simp only [Act.put, List.setIfInBounds_toArray, List.set_cons_zero, List.set_cons_succ])
  (refine seq_read (v := ?_) hS (by rfl) ?_ ?_; rotate_left; focus (intro wq hSq; obtain ⟨hq1, hq2, hq3⟩ := hSq; first | (go_simp; done) | (go_simp; with_reducible rfl))); (try simp only [Act.put, List.setIfInBounds_toArray, List.set_cons_zero, List.set_cons_succ])
  (refine seq_pure (v := ?_) (by rfl) ?_ ?_; rotate_left; focus (intro wq; first | (go_simp; done) | (go_simp; with_reducible rfl))); (try simp only [Act.put, List.setIfInBounds_toArray, List.set_cons_zero, List.set_cons_succ])
  (refine seq_pure (v := ?_) (by rfl) ?_ ?_; rotate_left; focus (intro wq; first | (go_simp; done) | (go_simp; with_reducible rfl))); (try simp only [Act.put, List.setIfInBounds_toArray, List.set_cons_zero, List.set_cons_succ])
  (refine seq_pure (v := ?_) (by rfl) ?_ ?_; rotate_left; focus (intro wq; first | (go_simp; done) | (go_simp; with_reducible rfl))); (try simp only [Act.put, List.setIfInBounds_toArray, List.set_cons_zero, List.set_cons_succ])
  refine seq_nil ?_
  clear hwr
  go_upto_region 12 with (go_at_call 106; first
    | (have hz := next_any w2 rb s (nxt s i 0).2.1 (nxt s i 0).2.2 H2.out.1 hs
       refine hz.mono ?_; rintro en w3 ⟨rfl, h3, k3⟩; have H3 := Lib.hid (And.intro h3 (H2.out.2.trans k3 (fun _ h _ => h))); clear h3 k3 hz)
    | (have hz := next_any w.drew rb s i 0 hA.out hs
       refine hz.mono ?_; rintro en w2 ⟨rfl, h2, k2⟩; have H2 := Lib.hid (And.intro h2 ((Keeps.refl [rb] w).drew.trans k2 (fun _ h _ => h))); clear h2 k2 hz))
  have ha256 : (nxt s i 0).1 < 256 := nxt_lt _ _ _
  have hb256 : (nxt s (nxt s i 0).2.1 (nxt s i 0).2.2).1 < 256 := nxt_lt _ _ _
  have hfit : ((nxt s (nxt s i 0).2.1 (nxt s i 0).2.2).2.2 = 0 → i + 2 ≤ s.size ∧ (nxt s (nxt s i 0).2.1 (nxt s i 0).2.2).2.1 = i + 2 ∧ cut s i 2 = [(nxt s i 0).1, (nxt s (nxt s i 0).2.1 (nxt s i 0).2.2).1]) ∧ ((nxt s (nxt s i 0).2.1 (nxt s i 0).2.2).2.2 ≠ 0 → s.size < i + 2) := by
    by_cases h1 : i < s.size
    · have e1 : nxt s i 0 = (byt s i, i + 1, 0) := by unfold nxt; rw [if_pos rfl, if_pos h1]
      rw [e1]
      by_cases h2 : i + 1 < s.size
      · have e2 : nxt s (i + 1) 0 = (byt s (i + 1), i + 2, 0) := by unfold nxt; rw [if_pos rfl, if_pos h2]
        rw [e2]
        exact ⟨fun _ => ⟨by omega, rfl, by simp [cut, List.range_succ]⟩, fun h => absurd rfl h⟩
      · have e2 : nxt s (i + 1) 0 = (0, i + 1, 1) := by unfold nxt; rw [if_pos rfl, if_neg h2]
        rw [e2]
        exact ⟨(fun h => by cases h), fun _ => by omega⟩
    · have e1 : nxt s i 0 = (0, i, 1) := by unfold nxt; rw [if_pos rfl, if_neg h1]
      rw [e1]
      have e2 : nxt s i 1 = (0, i, 1) := by unfold nxt; rw [if_neg (by decide)]
      rw [e2]
      exact ⟨(fun h => by cases h), fun _ => by omega⟩
  have hbl3 := lt_of_heap H3.out.1
  revert ha256 hb256 hfit H3
  generalize nxt s (nxt s i 0).2.1 (nxt s i 0).2.2 = p2
  generalize nxt s i 0 = p1 at *
  obtain ⟨aa, i1, e1⟩ := p1
  obtain ⟨bb, i2, e2⟩ := p2
  dsimp only
  intro H3 ha256 hb256 hfit
  have hca : (aa : Int) ≤ 255 := by omega
  have hcb : (bb : Int) ≤ 255 := by omega
  have hwa : IntKind.u8.wrap (aa : Int) = (aa : Int) := IntWalk.u8_in _ (by omega)
  have hwb : IntKind.u8.wrap (bb : Int) = (bb : Int) := IntWalk.u8_in _ (by omega)
  have HFIT := Lib.hid hfit
  clear hfit hS hA H2
  refine wp_region_pre [0, 1, 2, 3, 6] (by kernel_rfl) (by kernel_rfl) (fun d _ _ _ _ h => by cases d <;> exact h) ?_
  simp only [List.map_cons, List.map_nil, List.getD_cons_succ, List.getD_cons_zero]
  (refine pre_pure (v := ?_) (by rfl) ?_ ?_; rotate_left; focus (intro wq; first | (go_simp; done) | (go_simp; with_reducible rfl))); (try simp only [Act.put, List.setIfInBounds_toArray, List.set_cons_zero, List.set_cons_succ])
  (refine pre_pure (v := ?_) (by rfl) ?_ ?_; rotate_left; focus (intro wq; first | (go_simp; done) | (go_simp; with_reducible rfl))); (try simp only [Act.put, List.setIfInBounds_toArray, List.set_cons_zero, List.set_cons_succ])
  (refine pre_pure (v := ?_) (by rfl) ?_ ?_; rotate_left; focus (intro wq; first | (go_simp; done) | (go_simp; with_reducible rfl))); (try simp only [Act.put, List.setIfInBounds_toArray, List.set_cons_zero, List.set_cons_succ])
  (refine pre_pure (v := ?_) (by rfl) ?_ ?_; rotate_left; focus (intro wq; first | (go_simp; done) | (go_simp; with_reducible rfl))); (try simp only [Act.put, List.setIfInBounds_toArray, List.set_cons_zero, List.set_cons_succ])
  (refine pre_pure (v := ?_) (by rfl) ?_ ?_; rotate_left; focus (intro wq; first | (go_simp; done) | (go_simp; with_reducible rfl))); (try simp only [Act.put, List.setIfInBounds_toArray, List.set_cons_zero, List.set_cons_succ])
  refine pre_nil ?_
  refine any_fork (i := 4) (j := 7) (fuel := 4) (by kernel_rfl) (by rfl) (by rfl) (fun K hK => ?_) (fun K hK => ?_)
  · go_simp
    have hs3 : w3.drew.heap.size = w3.heap.size := rfl
    have hq0 : (w3.drew.alloc (.cells #[.int .u8 (aa : Int), .int .u8 (bb : Int)] 5)).heap[w3.heap.size]? = some (.cells #[.int .u8 (aa : Int), .int .u8 (bb : Int)] 5 (0, 0)) := heap_alloc_self (w := w3.drew)
    have hkA : Keeps [rb] w3 (w3.drew.alloc (.cells #[.int .u8 (aa : Int), .int .u8 (bb : Int)] 5)) := (Keeps.refl _ _).drew.alloc _
    have hrA : (w3.drew.alloc (.cells #[.int .u8 (aa : Int), .int .u8 (bb : Int)] 5)).heap[rb]? = some (RdObj s i2 e2) := ((Keeps.refl [] w3).drew.alloc _).heap H3.out.1 (by simp)
    have hS : (fun wx : World => (convert 75 9 (.slice (some ⟨w3.heap.size, 0, none⟩) 2 2)).run Tryz.prog wx = .ok (.string (strN [aa, bb])) wx) (w3.drew.alloc (.cells #[.int .u8 (aa : Int), .int .u8 (bb : Int)] 5)) := two_convert hq0 ha256 hb256
    have HN := Lib.hid (name_gen _ rb s i2 e2 hrA hs (fun h => by have := HFIT.out.1 h; omega))
    have HQ := Lib.hid (And.intro hq0 hkA)
    clear hq0 hkA hrA
    refine hK.out _ _ ?_
    clear hK K
    refine any_seq (fun wx : World => (convert 75 9 (.slice (some ⟨w3.heap.size, 0, none⟩) 2 2)).run Tryz.prog wx = .ok (.string (strN [aa, bb])) wx) [(5, 1), (7, 2), (8, 0), (9, 0)] [] rfl (by kernel_rfl) (fun d _ _ _ _ h => by cases d <;> exact h) ?_
    simp only [picks, List.getD_cons_succ, List.getD_cons_zero]
    (try simp only [Act.put, List.setIfInBounds_toArray, List.set_cons_zero, List.set_cons_succ])
    (refine seq_read (v := ?_) hS (by rfl) ?_ ?_; rotate_left; focus (intro wq hSq; obtain hq1 := hSq; first | (go_simp; done) | (go_simp; with_reducible rfl))); (try simp only [Act.put, List.setIfInBounds_toArray, List.set_cons_zero, List.set_cons_succ])
    refine seq_act (fun K hK => ?_)
    go_simp
    refine HN.out.mono ?_
    rintro en w4 hqq
    have H4 := Lib.hid hqq
    clear hqq
    obtain ⟨v, i4, e4, rfl, hd4, hvs, hw4⟩ := named_out H4.out
    have hs2 : (strN [aa, bb]).size = 2 := by simp [strN, ByteArray.size]
    have hss : ¬ 9223372036854775807 < 2 + v.size := by omega
    have HD4 := Lib.hid (And.intro hd4 hw4)
    clear hd4 hw4
    refine hK.out _ _ (two_convert (H4.out.1.heap HQ.out.1 (by simp; omega)) ha256 hb256) ?_
    clear hK K
    (try simp only [Act.put, List.setIfInBounds_toArray, List.set_cons_zero, List.set_cons_succ])
    (refine seq_pure (v := ?_) (by rfl) ?_ ?_; rotate_left; focus (intro wq; first | (go_simp; done) | (go_simp; with_reducible rfl))); (try simp only [Act.put, List.setIfInBounds_toArray, List.set_cons_zero, List.set_cons_succ])
    (refine seq_pure (v := ?_) (by rfl) ?_ ?_; rotate_left; focus (intro wq; first | (go_simp; done) | (go_simp; with_reducible rfl))); (try simp only [Act.put, List.setIfInBounds_toArray, List.set_cons_zero, List.set_cons_succ])
    refine seq_nil ?_
    clear hS
    have m4 : w4.cell? ⟨rb, 1, none⟩ = some (.int .i64 (i4 : Int)) := cell_of_heap HD4.out.1 rfl
    by_cases he : i4 = i + n
    · have hei : ((i4 : Int) != (i : Int) + (n : Int)) = false := by simp; omega
      go_wp2_with fail
      go_ret
      refine ⟨((H3.out.2.trans HQ.out.2 (fun _ h _ => h)).trans H4.out.1 (fun _ h _ => h)), ?_⟩
      rcases HD4.out.2 with ⟨nm, h1, h2, rfl, rfl⟩ | ⟨h1, h2⟩
      · left
        by_cases he2 : e2 = 0
        · obtain ⟨f1, f2, f3⟩ := HFIT.out.1 he2
          subst f2
          rw [if_pos he2] at h1
          refine ⟨cut s i 2 ++ nm, by unfold AfterTwo; rw [if_neg (by omega), h1, afterName_yes he]; rfl, ?_, by rw [f3, strN_append]; rfl, by rw [← he]; exact HD4.out.1⟩
          intro x hx
          rcases List.mem_append.1 hx with h | h
          · exact cut_lt _ _ _ x h
          · exact h2 x h
        · rw [if_neg he2] at h1; cases h1
      · right
        refine ⟨?_, _, i4, e4, rfl, HD4.out.1, h2⟩
        unfold AfterTwo
        by_cases he2 : e2 = 0
        · obtain ⟨f1, f2, f3⟩ := HFIT.out.1 he2
          subst f2
          rw [if_pos he2] at h1
          rw [if_neg (by omega), h1]; rfl
        · rw [if_pos (HFIT.out.2 he2)]
    · have hei : ((i4 : Int) != (i : Int) + (n : Int)) = true := by simp; omega
      go_wp2_with (go_at_call 108; have hf := fail_any _ rb s i4 e4 2 HD4.out.1; rw [failE] at hf; refine hf.mono ?_; rintro e5 w5 ⟨rfl, h5, k5⟩; have H5 := Lib.hid (And.intro h5 k5); clear h5 k5 hf)
      go_ret
      refine ⟨Keeps.trans ((H3.out.2.trans HQ.out.2 (fun _ h _ => h)).trans H4.out.1 (fun _ h _ => h)) H5.out.2 (fun _ h _ => h), .inr ⟨?_, _, i4, classE 0 e4, rfl, H5.out.1, ?_⟩⟩
      · unfold AfterTwo
        by_cases he2 : e2 = 0
        · obtain ⟨f1, f2, f3⟩ := HFIT.out.1 he2
          subst f2
          rw [if_neg (by omega)]
          rcases HD4.out.2 with ⟨nm, h1, h2, rfl, rfl⟩ | ⟨h1, h2⟩
          · rw [if_pos he2] at h1; rw [h1, afterName_no he]; rfl
          · rw [if_pos he2] at h1; rw [h1]; rfl
        · rw [if_pos (HFIT.out.2 he2)]
      · unfold classE; rw [if_neg (by decide)]; split <;> omega
  · go_simp
    have hrB : w3.drew.heap[rb]? = some (RdObj s i2 e2) := H3.out.1
    refine (name_gen w3.drew rb s i2 e2 hrB hs (fun h => by have := HFIT.out.1 h; omega)).mono ?_
    rintro en w4 hqq
    have H4 := Lib.hid hqq
    clear hqq hrB
    obtain ⟨v, i4, e4, rfl, hd4, hvs, hw4⟩ := named_out H4.out
    have hs2 : (strN [aa, bb]).size = 2 := by simp [strN, ByteArray.size]
    have hss : ¬ 9223372036854775807 < 2 + v.size := by omega
    have hq0 : (w4.alloc (.cells #[.int .u8 (aa : Int), .int .u8 (bb : Int)] 5)).heap[w4.heap.size]? = some (.cells #[.int .u8 (aa : Int), .int .u8 (bb : Int)] 5 (0, 0)) := heap_alloc_self
    have hS : (fun wx : World => (convert 75 9 (.slice (some ⟨w4.heap.size, 0, none⟩) 2 2)).run Tryz.prog wx = .ok (.string (strN [aa, bb])) wx) (w4.alloc (.cells #[.int .u8 (aa : Int), .int .u8 (bb : Int)] 5)) := two_convert hq0 ha256 hb256
    have hd5 : (w4.alloc (.cells #[.int .u8 (aa : Int), .int .u8 (bb : Int)] 5)).heap[rb]? = some (RdObj s i4 e4) := ((Keeps.refl [] w4).alloc _).heap hd4 (by simp)
    have m4 : (w4.alloc (.cells #[.int .u8 (aa : Int), .int .u8 (bb : Int)] 5)).cell? ⟨rb, 1, none⟩ = some (.int .i64 (i4 : Int)) := cell_of_heap hd5 rfl
    have HD4 := Lib.hid (And.intro hd4 hw4)
    have HQ5 := Lib.hid (And.intro hd5 (show Keeps [rb] w4 (w4.alloc (.cells #[.int .u8 (aa : Int), .int .u8 (bb : Int)] 5)) from (Keeps.refl _ _).alloc _))
    clear hd4 hw4 hq0 hd5
    refine hK.out _ _ ?_
    clear hK K
    refine any_seq (fun wx : World => (convert 75 9 (.slice (some ⟨w4.heap.size, 0, none⟩) 2 2)).run Tryz.prog wx = .ok (.string (strN [aa, bb])) wx) [(4, 2), (5, 1), (8, 0), (9, 0)] [] rfl (by kernel_rfl) (fun d _ _ _ _ h => by cases d <;> exact h) ?_
    simp only [picks, List.getD_cons_succ, List.getD_cons_zero]
    (try simp only [Act.put, List.setIfInBounds_toArray, List.set_cons_zero, List.set_cons_succ])
    refine seq_act (fun K hK => ?_)
    go_simp
    refine hK.out _ _ hS ?_
    clear hK K
    (try simp only [Act.put, List.setIfInBounds_toArray, List.set_cons_zero, List.set_cons_succ])
    (refine seq_read (v := ?_) hS (by rfl) ?_ ?_; rotate_left; focus (intro wq hSq; obtain hq1 := hSq; first | (go_simp; done) | (go_simp; with_reducible rfl))); (try simp only [Act.put, List.setIfInBounds_toArray, List.set_cons_zero, List.set_cons_succ])
    (refine seq_pure (v := ?_) (by rfl) ?_ ?_; rotate_left; focus (intro wq; first | (go_simp; done) | (go_simp; with_reducible rfl))); (try simp only [Act.put, List.setIfInBounds_toArray, List.set_cons_zero, List.set_cons_succ])
    (refine seq_pure (v := ?_) (by rfl) ?_ ?_; rotate_left; focus (intro wq; first | (go_simp; done) | (go_simp; with_reducible rfl))); (try simp only [Act.put, List.setIfInBounds_toArray, List.set_cons_zero, List.set_cons_succ])
    refine seq_nil ?_
    clear hS
    by_cases he : i4 = i + n
    · have hei : ((i4 : Int) != (i : Int) + (n : Int)) = false := by simp; omega
      go_wp2_with fail
      go_ret
      refine ⟨((H3.out.2.trans ((Keeps.refl [rb] w3).drew.trans H4.out.1 (fun _ h _ => h)) (fun _ h _ => h)).trans HQ5.out.2 (fun _ h _ => h)), ?_⟩
      rcases HD4.out.2 with ⟨nm, h1, h2, rfl, rfl⟩ | ⟨h1, h2⟩
      · left
        by_cases he2 : e2 = 0
        · obtain ⟨f1, f2, f3⟩ := HFIT.out.1 he2
          subst f2
          rw [if_pos he2] at h1
          refine ⟨cut s i 2 ++ nm, by unfold AfterTwo; rw [if_neg (by omega), h1, afterName_yes he]; rfl, ?_, by rw [f3, strN_append]; rfl, by rw [← he]; exact HQ5.out.1⟩
          intro x hx
          rcases List.mem_append.1 hx with h | h
          · exact cut_lt _ _ _ x h
          · exact h2 x h
        · rw [if_neg he2] at h1; cases h1
      · right
        refine ⟨?_, _, i4, e4, rfl, HQ5.out.1, h2⟩
        unfold AfterTwo
        by_cases he2 : e2 = 0
        · obtain ⟨f1, f2, f3⟩ := HFIT.out.1 he2
          subst f2
          rw [if_pos he2] at h1
          rw [if_neg (by omega), h1]; rfl
        · rw [if_pos (HFIT.out.2 he2)]
    · have hei : ((i4 : Int) != (i : Int) + (n : Int)) = true := by simp; omega
      go_wp2_with (go_at_call 108; have hf := fail_any _ rb s i4 e4 2 HQ5.out.1; rw [failE] at hf; refine hf.mono ?_; rintro e5 w5 ⟨rfl, h5, k5⟩; have H5 := Lib.hid (And.intro h5 k5); clear h5 k5 hf)
      go_ret
      refine ⟨Keeps.trans ((H3.out.2.trans ((Keeps.refl [rb] w3).drew.trans H4.out.1 (fun _ h _ => h)) (fun _ h _ => h)).trans HQ5.out.2 (fun _ h _ => h)) H5.out.2 (fun _ h _ => h), .inr ⟨?_, _, i4, classE 0 e4, rfl, H5.out.1, ?_⟩⟩
      · unfold AfterTwo
        by_cases he2 : e2 = 0
        · obtain ⟨f1, f2, f3⟩ := HFIT.out.1 he2
          subst f2
          rw [if_neg (by omega)]
          rcases HD4.out.2 with ⟨nm, h1, h2, rfl, rfl⟩ | ⟨h1, h2⟩
          · rw [if_pos he2] at h1; rw [h1, afterName_no he]; rfl
          · rw [if_pos he2] at h1; rw [h1]; rfl
        · rw [if_pos (HFIT.out.2 he2)]
      · unfold classE; rw [if_neg (by decide)]; split <;> omega
end Go.Proofs.Sess
namespace Go.Proofs.Sess
open Go Go.RowKit

theorem afterName_data {s : ByteArray} {i n kind : Nat} (hk : skipP kind = some 0) (hi : i ≤ s.size) : AfterName s i n (nameP s i i 0 0 [] none) = dataP s kind i n := by
  unfold dataP
  rw [hk]
  simp only [Nat.add_zero]
  rw [if_neg (by omega)]
  unfold AfterName
  have h0 : cut s i 0 = [] := by simp [cut]
  cases nameP s i i 0 0 [] none with
  | none => rfl
  | some p => obtain ⟨nm, j⟩ := p; simp [h0]
theorem afterTwo_data {s : ByteArray} {i n : Nat} : AfterTwo s i n = dataP s 15 i n := by
  unfold dataP AfterTwo
  have hk : skipP 15 = some 2 := rfl
  rw [hk]
  simp only
  by_cases h : s.size < i + 2
  · rw [if_pos h, if_pos h]
  · rw [if_neg h, if_neg h]
    unfold AfterName
    cases nameP s (i + 2) (i + 2) 0 0 [] none with
    | none => rfl
    | some p => obtain ⟨nm, j⟩ := p; by_cases hj : j = i + n <;> simp [hj]

/-- What the data is, whatever came before. -/
def dataE (s : ByteArray) (e i kind n : Nat) : Option (List Nat) := if e = 0 then (if s.size < i + n then none else dataP s kind i n) else none

/-- data, at whatever kind and after whatever. -/
theorem data_any (w : World) (rb : Nat) (s : ByteArray) (i e kind n : Nat) (hr : w.heap[rb]? = some (RdObj s i e)) (hs : s.size < 1000000) (hi : e = 0 → i ≤ s.size) (hn : n < 65536) :
    Calls Tryz.prog 85 #[.pointer (some ⟨rb, 0, none⟩), .int .i64 (kind : Int), .int .i64 (n : Int)] w (DataTo w rb s i n (dataE s e i kind n)) := by
  unfold dataE
  by_cases he : e = 0
  · subst he
    rw [if_pos rfl]
    by_cases hb : s.size < i + n
    · rw [if_pos hb]
      exact data_short w rb s i kind n hr hs (hi rfl) hn hb _ rfl
    · rw [if_neg hb]
      by_cases h15 : kind = 15
      · subst h15
        rw [← afterTwo_data]
        exact data_mx w rb s i n hr hs hn (by omega)
      · by_cases h0 : kind = 2 ∨ kind = 5 ∨ kind = 12
        · have hk : skipP kind = some 0 := by rcases h0 with rfl | rfl | rfl <;> rfl
          rw [← afterName_data hk (hi rfl)]
          exact data_name w rb s i kind n hr hs hn (by omega) h0
        · have hk : skipP kind = none := by unfold skipP; rw [if_neg h15, if_neg h0]
          have hp : dataP s kind i n = some (cut s i n) := by unfold dataP; rw [hk]
          rw [hp]
          exact data_plain w rb s i kind n hr hs hn (by omega) (by omega)
  · rw [if_neg he]
    refine (data_err w rb s i e kind n hr he).mono ?_
    rintro en w' ⟨rfl, h1, h2⟩
    exact ⟨h2, .inr ⟨rfl, _, i, e, rfl, h1, he⟩⟩
end Go.Proofs.Sess
namespace Go.Proofs.Sess
open Go Go.RowKit

/-- The reader after k numbers of two bytes. -/
def rst (s : ByteArray) : Nat → Nat × Nat
  | 0 => (0, 0)
  | k + 1 => ((num s 2 0 (rst s k).1 (rst s k).2).2.1, (num s 2 0 (rst s k).1 (rst s k).2).2.2)
/-- Number k. -/
def rvl (s : ByteArray) (k : Nat) : Nat := (num s 2 0 (rst s k).1 (rst s k).2).1
theorem rvl_lt (s : ByteArray) (k : Nat) : rvl s k < 65536 := by
  have := num_lt s 2 0 (rst s k).1 (rst s k).2
  unfold rvl; omega
theorem rst_ok {s : ByteArray} : ∀ (k : Nat), 2 * k ≤ s.size → rst s k = (2 * k, 0)
  | 0, _ => rfl
  | k + 1, h => by
    rw [rst, rst_ok k (by omega)]
    simp only
    rw [num2_ok (by omega)]
    simp only [Prod.mk.injEq, and_true]
    omega
theorem rvl_ok {s : ByteArray} (k : Nat) (h : 2 * k + 2 ≤ s.size) : rvl s k = num2 s (2 * k) := by
  unfold rvl
  rw [rst_ok k (by omega)]
  simp only
  rw [num2_ok (by omega)]
theorem rst_short {s : ByteArray} : ∀ (k : Nat), s.size < 2 * k → (rst s k).2 ≠ 0
  | 0, h => by omega
  | k + 1, h => by
    rw [rst]
    simp only
    by_cases hk : s.size < 2 * k
    · have he := rst_short k hk
      rw [(num_err s 2 0 _ _ he).1]
      exact he
    · rw [rst_ok k (by omega)]
      exact num2_short (by simp only; omega)
theorem number_st (w : World) (rb : Nat) (s : ByteArray) (k : Nat) (h : w.heap[rb]? = some (RdObj s (rst s k).1 (rst s k).2)) (hs : s.size < 1000000) :
    Calls Tryz.prog 82 #[.pointer (some ⟨rb, 0, none⟩), .int .i64 2] w (RdTo w rb s (.int .i64 (rvl s k)) (rst s (k + 1)).1 (rst s (k + 1)).2) := number_any w rb s _ _ 2 h hs (by omega)

/-- What Decode gives where the message is refused. -/
def Refused (w : World) (en : Ending) (w' : World) : Prop :=
  Keeps [] w w' ∧ ∃ e : Nat, e ≠ 0 ∧ en = .returned (.tuple #[.agg #[.int .i64 0, .int .i64 0, .slice none 0 0, .slice none 0 0], .int .i64 (e : Int)])

theorem decodeP_short {s : ByteArray} (h : (rst s 6).2 ≠ 0) : decodeP s = none := by
  unfold decodeP
  by_cases h12 : s.size < 12
  · rw [if_pos h12]
  · exfalso
    rw [rst_ok 6 (by omega)] at h
    exact h rfl

end Go.Proofs.Sess
/- The two loops of dns.Decode: what is left to do, what the world is. -/
namespace Go.Proofs.Sess
open Go Go.RowKit

/-- What is left of the records. -/
def contR (s : ByteArray) (m i : Nat) (acc : List RecP) (qs : List (List Nat)) : Option (List (List Nat) × List RecP) :=
  match recsP s m i acc with
  | none => none
  | some (rs, j) => if j = s.size then some (qs, rs) else none
/-- What is left of the questions, and all records. -/
def contQ (s : ByteArray) (m i : Nat) (acc : List (List Nat)) : Option (List (List Nat) × List RecP) :=
  match questsP s m i acc with
  | none => none
  | some (qs, j) => contR s (num2 s 6 + num2 s 8 + num2 s 10) j [] qs

theorem decodeP_cont {s : ByteArray} (h : 12 ≤ s.size) (hb : ¬ (8 < num2 s 4 ∨ 32 < num2 s 6 + num2 s 8 + num2 s 10)) : decodeP s = contQ s (num2 s 4) 12 [] := by
  unfold decodeP contQ contR
  rw [if_neg (by omega), if_neg hb]
  cases questsP s (num2 s 4) 12 [] with
  | none => rfl
  | some p => obtain ⟨a, b⟩ := p; rfl
theorem contQ_zero (s : ByteArray) (i : Nat) (acc : List (List Nat)) : contQ s 0 i acc = contR s (num2 s 6 + num2 s 8 + num2 s 10) i [] acc := rfl
theorem contQ_some {s : ByteArray} {m i j : Nat} {q : List Nat} {acc : List (List Nat)} (h : questP s i = some (q, j)) : contQ s (m + 1) i acc = contQ s m j (acc ++ [q]) := by
  unfold contQ; rw [questsP, h]
theorem contQ_none {s : ByteArray} {m i : Nat} {acc : List (List Nat)} (h : questP s i = none) : contQ s (m + 1) i acc = none := by
  unfold contQ; rw [questsP, h]
theorem contR_zero (s : ByteArray) (i : Nat) (acc : List RecP) (qs : List (List Nat)) : contR s 0 i acc qs = if i = s.size then some (qs, acc) else none := rfl
theorem contR_some {s : ByteArray} {m i j : Nat} {q : RecP} {acc : List RecP} {qs : List (List Nat)} (h : recP s i = some (q, j)) : contR s (m + 1) i acc qs = contR s m j (acc ++ [q]) qs := by
  unfold contR; rw [recsP, h]
theorem contR_none {s : ByteArray} {m i : Nat} {acc : List RecP} {qs : List (List Nat)} (h : recP s i = none) : contR s (m + 1) i acc qs = none := by
  unfold contR; rw [recsP, h]

theorem classE_ne {n e : Nat} (h : e ≠ 0) : classE n e ≠ 0 := by
  unfold classE
  by_cases hn : n = 1
  · rw [if_pos hn]; exact h
  · rw [if_neg hn, if_neg h]; exact h
theorem num_go {s : ByteArray} : ∀ (k n i : Nat), i + k ≤ s.size → (num s k n i 0).2 = (i + k, 0)
  | 0, _, _, _ => rfl
  | k + 1, n, i, h => by
    have hx : nxt s i 0 = (byt s i, i + 1, 0) := by unfold nxt; rw [if_pos rfl, if_pos (by omega)]
    rw [num, hx, num_go k _ _ (by dsimp only; omega)]
    dsimp only; congr 1; omega

/-- A question's fields behind its name. -/
theorem quest_res {s : ByteArray} {i : Nat} {v : ByteArray} {i1 e1 : Nat}
    (h : (∃ nm, nameP s i i 0 0 [] none = some (nm, i1) ∧ v = strN nm ∧ e1 = 0) ∨ (nameP s i i 0 0 [] none = none ∧ e1 ≠ 0)) :
    (classE (num s 2 0 (num s 2 0 i1 e1).2.1 (num s 2 0 i1 e1).2.2).1 (num s 2 0 (num s 2 0 i1 e1).2.1 (num s 2 0 i1 e1).2.2).2.2 = 0 ∧
      ∃ nm, questP s i = some (nm, (num s 2 0 (num s 2 0 i1 e1).2.1 (num s 2 0 i1 e1).2.2).2.1) ∧ v = strN nm ∧ nm.length ≤ 253 ∧ (num s 2 0 (num s 2 0 i1 e1).2.1 (num s 2 0 i1 e1).2.2).2.1 = i1 + 4 ∧ i1 + 4 ≤ s.size ∧ (num s 2 0 i1 e1).1 = num2 s i1) ∨
    (classE (num s 2 0 (num s 2 0 i1 e1).2.1 (num s 2 0 i1 e1).2.2).1 (num s 2 0 (num s 2 0 i1 e1).2.1 (num s 2 0 i1 e1).2.2).2.2 ≠ 0 ∧ questP s i = none) := by
  rcases h with ⟨nm, h1, rfl, rfl⟩ | ⟨h1, he⟩
  · have hl := nameP_len _ _ _ _ _ _ _ nm i1 (Nat.le_refl _) (by simp) (.inl rfl) (fun _ => rfl) h1
    unfold questP
    rw [h1]
    dsimp only
    by_cases h4 : s.size < i1 + 4
    · rw [if_pos h4]
      right
      refine ⟨?_, rfl⟩
      by_cases h2 : i1 + 2 ≤ s.size
      · rw [num2_ok h2]
        dsimp only
        have h3 : (num s 2 0 (i1 + 2) 0).2.2 ≠ 0 := num2_short (by omega)
        exact classE_ne h3
      · have h3 : (num s 2 0 i1 0).2.2 ≠ 0 := num2_short (by omega)
        have h5 := (num_err s 2 0 (num s 2 0 i1 0).2.1 _ h3).1
        rw [h5]
        exact classE_ne h3
    · rw [if_neg h4, num2_ok (by omega)]
      dsimp only
      rw [num2_ok (by omega)]
      dsimp only
      by_cases hc : num2 s (i1 + 2) = 1
      · left
        rw [if_pos hc]
        exact ⟨by unfold classE; rw [if_pos hc], nm, rfl, rfl, hl, rfl, by omega, rfl⟩
      · right
        rw [if_neg hc]
        refine ⟨by unfold classE; rw [if_neg hc]; simp, rfl⟩
  · right
    have h5 := num_err s 2 0 i1 e1 he
    have h6 := num_err s 2 0 (num s 2 0 i1 e1).2.1 (num s 2 0 i1 e1).2.2 (by rw [h5.1]; exact he)
    refine ⟨?_, by unfold questP; rw [h1]⟩
    rw [h6.1, h5.1]
    exact classE_ne he

/-- A record of the program: its cells. -/
structure RecW where
  name : ByteArray
  type : Nat
  ttl : Nat
  data : ByteArray
def RecW.small (r : RecW) : Prop := r.name.size ≤ 253 ∧ r.type < 65536 ∧ r.data.size ≤ 100000
def qV (l : List (ByteArray × Nat)) : List Value := l.flatMap fun q => [.string q.1, .int .i64 (q.2 : Int)]
def rV (l : List RecW) : List Value := l.flatMap fun r => [.string r.name, .int .i64 (r.type : Int), .int .i64 (r.ttl : Int), .string r.data]
theorem qV_append (l m : List (ByteArray × Nat)) : qV (l ++ m) = qV l ++ qV m := by simp [qV]
theorem rV_append (l m : List RecW) : rV (l ++ m) = rV l ++ rV m := by simp [rV]
theorem qV_one (q : ByteArray × Nat) : qV [q] = [.string q.1, .int .i64 (q.2 : Int)] := by simp [qV]
theorem rV_one (r : RecW) : rV [r] = [.string r.name, .int .i64 (r.type : Int), .int .i64 (r.ttl : Int), .string r.data] := by simp [rV]

def RecW.isP (r : RecW) (x : RecP) : Prop := r.name = strN x.name ∧ r.type = x.type ∧ r.data = strN x.data
/-- The records are those of the plain decoder. -/
inductive RecsAre : List RecW → List RecP → Prop
  | nil : RecsAre [] []
  | snoc {l m r x} : RecsAre l m → RecW.isP r x → RecsAre (l ++ [r]) (m ++ [x])

/-- A record's fields behind its class. -/
theorem dataP_len {s : ByteArray} {t i n : Nat} {d : List Nat} (h : dataP s t i n = some d) : d.length ≤ n + 300 := by
  unfold dataP at h
  split at h
  · simp only [Option.some.injEq] at h; subst h; simp [cut]
  · rename_i k hk
    split at h
    · cases h
    · split at h
      · cases h
      · rename_i nm j hn
        split at h
        · simp only [Option.some.injEq] at h; subst h
          have hl := nameP_len _ _ _ _ _ _ _ nm j (Nat.le_refl _) (by simp) (.inl rfl) (fun _ => rfl) hn
          have : k ≤ 2 := by
            unfold skipP at hk
            by_cases h15 : t = 15
            · rw [if_pos h15] at hk; simp at hk; omega
            · rw [if_neg h15] at hk
              by_cases h0 : t = 2 ∨ t = 5 ∨ t = 12
              · rw [if_pos h0] at hk; simp at hk; omega
              · rw [if_neg h0] at hk; cases hk
          simp [cut]; omega
        · cases h
def RecRes (s : ByteArray) (i : Nat) (nm : List Nat) (t e3 i4 e4 : Nat) : Prop :=
    (∃ d, dataE s (num s 2 0 i4 e4).2.2 (num s 2 0 i4 e4).2.1 t (num s 2 0 i4 e4).1 = some d ∧ e3 = 0 ∧ d.length ≤ 70000 ∧ t < 65536 ∧
      recP s i = some (⟨nm, t, d⟩, (num s 2 0 i4 e4).2.1 + (num s 2 0 i4 e4).1) ∧ (num s 2 0 i4 e4).2.1 + (num s 2 0 i4 e4).1 ≤ s.size) ∨
    (dataE s (num s 2 0 i4 e4).2.2 (num s 2 0 i4 e4).2.1 t (num s 2 0 i4 e4).1 = none ∧ recP s i = none)
theorem rec_res {s : ByteArray} {i : Nat} {t i3 e3 : Nat} {nm : List Nat}
    (h : (e3 = 0 ∧ questP s i = some (nm, i3) ∧ 4 ≤ i3 ∧ i3 ≤ s.size ∧ t = num2 s (i3 - 4)) ∨ (e3 ≠ 0 ∧ questP s i = none)) :
    RecRes s i nm t e3 (num s 4 0 i3 e3).2.1 (num s 4 0 i3 e3).2.2 := by
  unfold RecRes
  rcases h with ⟨rfl, h1, h4, h5, rfl⟩ | ⟨he, h1⟩
  · unfold recP
    rw [h1]
    dsimp only
    by_cases h6 : s.size < i3 + 6
    · rw [if_pos h6]
      right
      refine ⟨?_, rfl⟩
      unfold dataE
      rw [if_neg]
      intro h0
      by_cases h7 : i3 + 4 ≤ s.size
      · rw [num_go 4 0 i3 h7] at h0
        exact num2_short (by dsimp only; omega) h0
      · rcases num_ok s 2 0 _ _ h0 with ⟨h8, h9, _⟩ | h8
        · rcases num_ok s 4 0 i3 0 h8 with ⟨_, h10, _⟩ | h10
          · omega
          · cases h10
        · cases h8
    · rw [if_neg h6, num_go 4 0 i3 (by omega)]
      dsimp only
      rw [num2_ok (by omega)]
      dsimp only
      unfold dataE
      rw [if_pos rfl]
      have hn : num2 s (i3 + 4) < 65536 := by
        have h1 := byt_lt s (i3 + 4); have h2 := byt_lt s (i3 + 4 + 1); unfold num2; omega
      have ht : num2 s (i3 - 4) < 65536 := by
        have h1 := byt_lt s (i3 - 4); have h2 := byt_lt s (i3 - 4 + 1); unfold num2; omega
      by_cases h7 : s.size < i3 + 4 + 2 + num2 s (i3 + 4)
      · rw [if_pos h7, if_pos (by omega)]
        exact .inr ⟨rfl, rfl⟩
      · rw [if_neg h7, if_neg (by omega)]
        cases hd : dataP s (num2 s (i3 - 4)) (i3 + 4 + 2) (num2 s (i3 + 4)) with
        | none => right; rw [show i3 + 6 = i3 + 4 + 2 by omega]; exact ⟨rfl, rfl⟩
        | some d =>
          left
          have hl := dataP_len hd
          rw [show i3 + 6 = i3 + 4 + 2 by omega]
          exact ⟨d, rfl, rfl, by omega, ht, rfl, by omega⟩
  · right
    have h2 := num_err s 4 0 i3 e3 he
    have h3 := num_err s 2 0 (num s 4 0 i3 e3).2.1 (num s 4 0 i3 e3).2.2 (by rw [h2.1]; exact he)
    refine ⟨?_, by unfold recP; rw [h1]⟩
    unfold dataE
    rw [if_neg (by rw [h3.1, h2.1]; exact he)]

/-- The world of Decode: w, ahead of the call; bb: the result; rb: the reader; db: the message. -/
structure DecAt (w W : World) (bb rb db : Nat) (s : ByteArray) (i e : Nat) (qs : List (ByteArray × Nat)) (rs : List RecW) : Prop where
  k : Keeps [] w W
  b : W.heap[bb]? = some (.cells #[.int .i64 0, .int .i64 0, .slice none 0 0, .slice none 0 0] 115 (0, 0))
  r : W.heap[rb]? = some (RdObj s i e)
  d : ∃ qv rv, W.heap[db]? = some (.cells #[.int .i64 (rvl s 0 : Nat), .int .i64 (rvl s 1 : Nat), qv, rv] 115 (0, 0)) ∧ W.ownsRow w.heap.size 120 2 qv qs.length (qV qs) ∧ W.ownsRow w.heap.size 122 4 rv rs.length (rV rs)
  ne : bb ≠ db
  lb : w.heap.size ≤ bb
  lr : w.heap.size ≤ rb
  ld : w.heap.size ≤ db

theorem own_type_at {w : World} {B : Nat} {v : Value} {n g : Nat} {e : TypeId} {size : Nat} {xs : List Value} (h : w.ownsRow B e size v n xs) (hg : v.ownBlock = some g) : ∃ cur, w.heap[g]? = some (.cells cur e (0, 0)) := by
  rcases h.2 with ⟨hv, _⟩ | ⟨g', cap, cur, hv, _, hh, _⟩
  · subst hv; cases hg
  · subst hv
    simp [Value.ownBlock] at hg
    subst hg
    exact ⟨cur, hh⟩

theorem own_slice {w : World} {B : Nat} {v : Value} {n : Nat} {e : TypeId} {size : Nat} {xs : List Value} (h : w.ownsRow B e size v n xs) : ∃ a c, v = .slice a n c := by
  rcases h.2 with ⟨hv, h0⟩ | ⟨g, cap, cur, hv, _⟩
  · exact ⟨none, 0, by rw [hv, h0]⟩
  · exact ⟨_, _, hv⟩
theorem own_ne {w : World} {B : Nat} {v : Value} {n : Nat} {e t : TypeId} {size k : Nat} {xs : List Value} {cs : Array Value} {fr : Nat × Nat} (h : w.ownsRow B e size v n xs) (hk : w.heap[k]? = some (.cells cs t fr)) (ht : e ≠ t) : some k ≠ v.ownBlock := fun he => by
  obtain ⟨cur, hc⟩ := own_type_at h he.symm
  exact cells_ne hc hk ht rfl

/-- The reader moves on. -/
theorem DecAt.rd {w W W' : World} {bb rb db : Nat} {s : ByteArray} {i e i' e' : Nat} {qs : List (ByteArray × Nat)} {rs : List RecW} (h : DecAt w W bb rb db s i e qs rs)
    (hk : Keeps [rb] W W') (hr : W'.heap[rb]? = some (RdObj s i' e')) : DecAt w W' bb rb db s i' e' qs rs := by
  obtain ⟨qv, rv, h1, h2, h3⟩ := h.d
  have nb : bb ≠ rb := cells_ne h.b h.r (by decide)
  have nd : db ≠ rb := cells_ne h1 h.r (by decide)
  refine ⟨h.k.trans hk (fun x hx hl => ?_), hk.heap h.b (by simpa using nb), hr, ⟨qv, rv, hk.heap h1 (by simpa using nd), hk.own h2 (fun g hg => ?_), hk.own h3 (fun g hg => ?_)⟩, h.ne, h.lb, h.lr, h.ld⟩
  · have := h.lr; simp at hx; omega
  · obtain ⟨cur, hc⟩ := own_type_at h2 hg
    simpa using cells_ne hc h.r (by decide)
  · obtain ⟨cur, hc⟩ := own_type_at h3 hg
    simpa using cells_ne hc h.r (by decide)
theorem DecAt.calm {w W W' : World} {bb rb db : Nat} {s : ByteArray} {i e : Nat} {qs : List (ByteArray × Nat)} {rs : List RecW} (h : DecAt w W bb rb db s i e qs rs)
    (hk : Keeps [] W W') : DecAt w W' bb rb db s i e qs rs := h.rd (hk.mono (by simp)) (hk.heap h.r (by simp))

/-- A question is appended. -/
theorem DecAt.putQ {w W W1 W2 : World} {bb rb db : Nat} {s : ByteArray} {i e : Nat} {qs : List (ByteArray × Nat)} {rs : List RecW} {qv rv : Value} {q : ByteArray × Nat} {g cap : Nat} (h : DecAt w W bb rb db s i e qs rs)
    (hd : W.heap[db]? = some (.cells #[.int .i64 (rvl s 0 : Nat), .int .i64 (rvl s 1 : Nat), qv, rv] 115 (0, 0)))
    (hk : Keeps [] W W1) (hown : W2.ownsRow w.heap.size 120 2 (.slice (some ⟨g, 0, none⟩) (qs.length + 1) cap) (qs.length + 1) (qV qs ++ [.string q.1, .int .i64 (q.2 : Int)])) (hgrow : W1.grownBy W2 qv.ownBlock) :
    DecAt w (W2.setCell ⟨db, 2, none⟩ (.slice (some ⟨g, 0, none⟩) (qs.length + 1) cap)) bb rb db s i e (qs ++ [q]) rs := by
  obtain ⟨qv', rv', h1, h2, h3⟩ := h.d
  rw [hd] at h1
  simp at h1
  obtain ⟨rfl, rfl⟩ := h1
  have hne : ∀ k o, W.heap[k]? = some o → (∀ cur f, o = .cells cur 120 f → False) → k ∉ qv.ownBlock.toList := fun k o hk' hno hm => by
    obtain ⟨cur, hc⟩ := own_type_at h2 (g := k) (by simpa using hm)
    rw [hc] at hk'
    simp at hk'
    exact hno _ _ hk'.symm
  have hk2 : Keeps qv.ownBlock.toList W W2 := (hk.mono (by simp)).grown hgrow (fun k hk' _ => by simp [hk'])
  have hd2 := hk2.heap hd (hne _ _ hd (by simp))
  have hb2 := hk2.heap h.b (hne _ _ h.b (by simp))
  have hr2 := hk2.heap h.r (hne _ _ h.r (by simp [RdObj]))
  have nd : rb ≠ db := cells_ne h.r hd (by decide)
  have kS : Keeps [db] W2 (W2.setCell ⟨db, 2, none⟩ (.slice (some ⟨g, 0, none⟩) (qs.length + 1) cap)) := (Keeps.refl _ _).setCell (by simp) _
  have hg2 : ∃ cur, W2.heap[g]? = some (.cells cur 120 (0, 0)) := own_type_at hown rfl
  obtain ⟨cur, hg2⟩ := hg2
  have h32 : W2.ownsRow w.heap.size 122 4 rv rs.length (rV rs) := hk2.own h3 (fun k hk' => by
    obtain ⟨cu, hc⟩ := own_type_at h3 hk'
    exact hne _ _ hc (by simp))
  refine ⟨?_, kS.heap hb2 (by simpa using h.ne), kS.heap hr2 (by simpa using nd), ⟨_, _, by rw [heap_setCell_self hd2]; rfl, ?_, kS.own h32 (fun k hk' => ?_)⟩, h.ne, h.lb, h.lr, h.ld⟩
  · refine (h.k.trans hk2 (fun x hx hl => ?_)).trans kS (fun x hx hl => ?_)
    · have := (h2.lt x (by simpa using hx)).1; omega
    · have := h.ld; simp at hx; omega
  · rw [qV_append, qV_one, List.length_append]
    exact kS.own hown (fun k hk' => by simp [Value.ownBlock] at hk'; subst hk'; simpa using cells_ne hg2 hd2 (by decide))
  · obtain ⟨cu, hc⟩ := own_type_at h32 hk'
    simpa using cells_ne hc hd2 (by decide)
/-- A record is appended. -/
theorem DecAt.putR {w W W1 W2 : World} {bb rb db : Nat} {s : ByteArray} {i e : Nat} {qs : List (ByteArray × Nat)} {rs : List RecW} {qv rv : Value} {q : RecW} {g cap : Nat} (h : DecAt w W bb rb db s i e qs rs)
    (hd : W.heap[db]? = some (.cells #[.int .i64 (rvl s 0 : Nat), .int .i64 (rvl s 1 : Nat), qv, rv] 115 (0, 0)))
    (hk : Keeps [] W W1) (hown : W2.ownsRow w.heap.size 122 4 (.slice (some ⟨g, 0, none⟩) (rs.length + 1) cap) (rs.length + 1) (rV rs ++ [.string q.name, .int .i64 (q.type : Int), .int .i64 (q.ttl : Int), .string q.data])) (hgrow : W1.grownBy W2 rv.ownBlock) :
    DecAt w (W2.setCell ⟨db, 3, none⟩ (.slice (some ⟨g, 0, none⟩) (rs.length + 1) cap)) bb rb db s i e qs (rs ++ [q]) := by
  obtain ⟨qv', rv', h1, h3, h2⟩ := h.d
  rw [hd] at h1
  simp at h1
  obtain ⟨rfl, rfl⟩ := h1
  have hne : ∀ k o, W.heap[k]? = some o → (∀ cur f, o = .cells cur 122 f → False) → k ∉ rv.ownBlock.toList := fun k o hk' hno hm => by
    obtain ⟨cur, hc⟩ := own_type_at h2 (g := k) (by simpa using hm)
    rw [hc] at hk'
    simp at hk'
    exact hno _ _ hk'.symm
  have hk2 : Keeps rv.ownBlock.toList W W2 := (hk.mono (by simp)).grown hgrow (fun k hk' _ => by simp [hk'])
  have hd2 := hk2.heap hd (hne _ _ hd (by simp))
  have hb2 := hk2.heap h.b (hne _ _ h.b (by simp))
  have hr2 := hk2.heap h.r (hne _ _ h.r (by simp [RdObj]))
  have nd : rb ≠ db := cells_ne h.r hd (by decide)
  have kS : Keeps [db] W2 (W2.setCell ⟨db, 3, none⟩ (.slice (some ⟨g, 0, none⟩) (rs.length + 1) cap)) := (Keeps.refl _ _).setCell (by simp) _
  have hg2 : ∃ cur, W2.heap[g]? = some (.cells cur 122 (0, 0)) := own_type_at hown rfl
  obtain ⟨cur, hg2⟩ := hg2
  have h32 : W2.ownsRow w.heap.size 120 2 qv qs.length (qV qs) := hk2.own h3 (fun k hk' => by
    obtain ⟨cu, hc⟩ := own_type_at h3 hk'
    exact hne _ _ hc (by simp))
  refine ⟨?_, kS.heap hb2 (by simpa using h.ne), kS.heap hr2 (by simpa using nd), ⟨_, _, by rw [heap_setCell_self hd2]; rfl, kS.own h32 (fun k hk' => ?_), ?_⟩, h.ne, h.lb, h.lr, h.ld⟩
  · refine (h.k.trans hk2 (fun x hx hl => ?_)).trans kS (fun x hx hl => ?_)
    · have := (h2.lt x (by simpa using hx)).1; omega
    · have := h.ld; simp at hx; omega
  · obtain ⟨cu, hc⟩ := own_type_at h32 hk'
    simpa using cells_ne hc hd2 (by decide)
  · rw [rV_append, rV_one, List.length_append]
    exact kS.own hown (fun k hk' => by simp [Value.ownBlock] at hk'; subst hk'; simpa using cells_ne hg2 hd2 (by decide))
/-- Four stores into a block of four cells. -/
theorem store4 {w : World} {b : Nat} {c0 c1 c2 c3 : Value} {t : TypeId} (h : w.heap[b]? = some (.cells #[c0, c1, c2, c3] t (0, 0))) (v0 v1 v2 v3 : Value) :
    w.cell? ⟨b, 0, none⟩ = some c0 ∧ w.frozen? ⟨b, 0, none⟩ = false ∧
    (w.setCell ⟨b, 0, none⟩ v0).cell? ⟨b, 1, none⟩ = some c1 ∧ (w.setCell ⟨b, 0, none⟩ v0).frozen? ⟨b, 1, none⟩ = false ∧
    ((w.setCell ⟨b, 0, none⟩ v0).setCell ⟨b, 1, none⟩ v1).cell? ⟨b, 2, none⟩ = some c2 ∧ ((w.setCell ⟨b, 0, none⟩ v0).setCell ⟨b, 1, none⟩ v1).frozen? ⟨b, 2, none⟩ = false ∧
    (((w.setCell ⟨b, 0, none⟩ v0).setCell ⟨b, 1, none⟩ v1).setCell ⟨b, 2, none⟩ v2).cell? ⟨b, 3, none⟩ = some c3 ∧ (((w.setCell ⟨b, 0, none⟩ v0).setCell ⟨b, 1, none⟩ v1).setCell ⟨b, 2, none⟩ v2).frozen? ⟨b, 3, none⟩ = false ∧
    ((((w.setCell ⟨b, 0, none⟩ v0).setCell ⟨b, 1, none⟩ v1).setCell ⟨b, 2, none⟩ v2).setCell ⟨b, 3, none⟩ v3).heap[b]? = some (.cells #[v0, v1, v2, v3] t (0, 0)) := by
  have h1 : (w.setCell ⟨b, 0, none⟩ v0).heap[b]? = some (.cells #[v0, c1, c2, c3] t (0, 0)) := heap_setCell_self h _
  have h2 : ((w.setCell ⟨b, 0, none⟩ v0).setCell ⟨b, 1, none⟩ v1).heap[b]? = some (.cells #[v0, v1, c2, c3] t (0, 0)) := heap_setCell_self h1 _
  have h3 : (((w.setCell ⟨b, 0, none⟩ v0).setCell ⟨b, 1, none⟩ v1).setCell ⟨b, 2, none⟩ v2).heap[b]? = some (.cells #[v0, v1, v2, c3] t (0, 0)) := heap_setCell_self h2 _
  have h4 : ((((w.setCell ⟨b, 0, none⟩ v0).setCell ⟨b, 1, none⟩ v1).setCell ⟨b, 2, none⟩ v2).setCell ⟨b, 3, none⟩ v3).heap[b]? = some (.cells #[v0, v1, v2, v3] t (0, 0)) := heap_setCell_self h3 _
  exact ⟨cell_of_heap h rfl, free_of_heap h, cell_of_heap h1 rfl, free_of_heap h1, cell_of_heap h2 rfl, free_of_heap h2, cell_of_heap h3 rfl, free_of_heap h3, h4⟩
end Go.Proofs.Sess
