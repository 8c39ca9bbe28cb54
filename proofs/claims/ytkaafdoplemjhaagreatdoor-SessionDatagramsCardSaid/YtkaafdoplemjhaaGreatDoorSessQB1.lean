/- A part of the proof that a session of datagrams answers as the reference (SessionDatagrams). Its contents: contracts of functions of the program, each stated with its premises. -/
import Derived.Test.YtkaafdoplemjhaaGreatDoorSessQA9
import Derived.Test.YtkaafdoplemjhaaGreatDoorSessQA6
import Derived.Test.YtkaafdoplemjhaaGreatDoorSessQB0
import Derived.Lib.LaidTab
import Derived.Lib.ItoaLen
import Derived.Deep.DeepCutAuto
import Derived.Deep.CutBlock
/- session's message: what it reads and reports. -/
namespace Go.Proofs.Sess
open Go Go.RowKit

/-- The table of strconv lies ahead of B. -/
def TabIn (B : Nat) (w : World) : Prop :=
  ∃ g t fr, Tryz.prog.globalNamed "internal/strconv.uint64pow10" = some g ∧ g < B ∧ w.heap[g]? = some (.cells (Lib.pow10Tab.map fun z => Value.int .u64 z).toArray t fr)
theorem TabIn.tab {B : Nat} {w : World} (h : TabIn B w) : Lib.TabIs Tryz.prog w "internal/strconv.uint64pow10" .u64 Lib.pow10Tab := by
  obtain ⟨g, t, fr, h1, h2, h3⟩ := h
  unfold Lib.TabIs World.var?
  rw [h1]
  simp [h3]
theorem TabIn.of {w : World} (h : Lib.TabIs Tryz.prog w "internal/strconv.uint64pow10" .u64 Lib.pow10Tab) : TabIn w.heap.size w := by
  unfold Lib.TabIs World.var? at h
  obtain ⟨g, h1, h2⟩ := Option.bind_eq_some_iff.1 h
  revert h2
  cases hg : w.heap[g]? with
  | none => intro h2; cases h2
  | some o =>
    cases o with
    | cells cs t fr => intro h2; simp only [Option.some.injEq] at h2; exact ⟨g, t, fr, h1, lt_of_heap hg, by rw [hg, h2]⟩
    | _ => intro h2; cases h2
theorem TabIn.keep {B : Nat} {w w' : World} (h : TabIn B w) {S : List Nat} (hk : Keeps S w w') (hS : ∀ k ∈ S, B ≤ k) : TabIn B w' := by
  obtain ⟨g, t, fr, h1, h2, h3⟩ := h
  exact ⟨g, t, fr, h1, h2, hk.heap h3 (fun hm => by have := hS g hm; omega)⟩

def itoaS (n : Nat) : ByteArray := ⟨(Lib.itoa (n : Int)).toArray⟩
theorem Keeps.grow (w : World) (k : Nat) (os : Array Obj) : Keeps [] w (Sort.grow (w.drewN k) os) :=
  ⟨rfl, rfl, rfl, by simp [Sort.grow, World.drewN], fun i hi _ => by
    show (w.heap ++ os)[i]? = _
    rw [Array.getElem?_append_left hi]⟩
theorem itoa_sess (w : World) (n B : Nat) (hn : n < 65536) (ht : TabIn B w) : Calls Tryz.prog 58 #[.int .i64 (n : Int)] w fun e w' => e = .returned (.string (itoaS n)) ∧ Keeps [] w w' :=
  (itoa_any (n : Int) (by omega) (by omega) w ht.tab).mono fun e w' h => by
    obtain ⟨h1, k, os, h2⟩ := h
    subst h2
    exact ⟨h1, Keeps.grow _ _ _⟩

theorem itoaS_size (n : Nat) (h : n < 65536) : (itoaS n).size ≤ 21 := by
  have := Lib.itoa_length_le (n : Int) (by omega) (by omega)
  simpa [itoaS, ByteArray.size] using this
def spS : ByteArray := ⟨#[32]⟩
def ansB (nm : ByteArray) (t : Nat) (d : ByteArray) : ByteArray := nm ++ spS ++ itoaS t ++ spS ++ d
/-- What a message reports. -/
def msgEv (dir : Int) (s : ByteArray) : List Ev :=
  match decodeP s with
  | none => [⟨18, dir, ⟨#[100, 110, 115]⟩⟩]
  | some (a, b) => a.map (fun q => ⟨8, dir, strN q⟩) ++ b.map (fun x => ⟨9, dir, ansB (strN x.name) x.type (strN x.data)⟩)
def evQ (dir : Int) (qs : List (ByteArray × Nat)) : List Ev := qs.map fun q => ⟨8, dir, q.1⟩
def evR (dir : Int) (rs : List RecW) : List Ev := rs.map fun r => ⟨9, dir, ansB r.name r.type r.data⟩
theorem recsAre_ev (dir : Int) {rs : List RecW} {b : List RecP} (h : RecsAre rs b) : evR dir rs = b.map (fun x => ⟨9, dir, ansB (strN x.name) x.type (strN x.data)⟩) := by
  induction h with
  | nil => rfl
  | snoc _ h2 ih => simp only [evR, List.map_append] at ih ⊢; rw [ih]; simp [h2.1, h2.2.1, h2.2.2]
theorem msgEv_out (dir : Int) {s : ByteArray} {qs : List (ByteArray × Nat)} {rs : List RecW} (h : DecOut s qs rs) : msgEv dir s = evQ dir qs ++ evR dir rs := by
  obtain ⟨a, b, h1, h2, h3, h4⟩ := h
  unfold msgEv
  rw [h1]
  simp only
  rw [recsAre_ev dir h3]
  congr 1
  have : a.map (fun q => (⟨8, dir, strN q⟩ : Ev)) = (a.map strN).map (fun q => ⟨8, dir, q⟩) := by simp
  rw [this, ← h2]
  simp [evQ]
theorem msgEv_none (dir : Int) {s : ByteArray} (h : decodeP s = none) : msgEv dir s = [⟨18, dir, ⟨#[100, 110, 115]⟩⟩] := by unfold msgEv; rw [h]

/-- A cell of a row that is owned. -/
theorem rowCell {w : World} {B : Nat} {e : TypeId} {size : Nat} {v : Value} {n : Nat} {xs : List Value} (h : w.ownsRow B e size v n xs) {g j : Nat} {u : Value} (hg : v.ownBlock = some g) (hj : xs[j]? = some u) : w.cell? ⟨g, j, none⟩ = some u := by
  have hc := h.cells hg
  have add : (⟨g, 0, none⟩ : Addr).add j = ⟨g, j, none⟩ := by unfold Addr.add; split <;> simp_all
  rw [← add]
  exact hc _ _ hj
theorem flat_get {α : Type} {m : Nat} (F : α → List Value) (hF : ∀ x, (F x).length = m) : ∀ (l : List α) (k j : Nat) (x : α), l[k]? = some x → j < m → (l.flatMap F)[k * m + j]? = (F x)[j]?
  | [], k, j, x, h, _ => by simp at h
  | y :: l, 0, j, x, h, hj => by
    simp at h; subst h
    rw [List.flatMap_cons, List.getElem?_append_left (by rw [hF]; omega)]
    simp
  | y :: l, k + 1, j, x, h, hj => by
    rw [List.flatMap_cons, List.getElem?_append_right (by rw [hF, Nat.add_mul]; omega)]
    rw [show (k + 1) * m + j - (F y).length = k * m + j by rw [hF, Nat.add_mul]; omega]
    exact flat_get F hF l k j x (by simpa using h) hj
theorem q_cells {w : World} {B : Nat} {v : Value} {qs : List (ByteArray × Nat)} (h : w.ownsRow B 120 2 v qs.length (qV qs)) {g k : Nat} {x : ByteArray × Nat} (hg : v.ownBlock = some g) (hk : qs[k]? = some x) :
    w.cell? ⟨g, k * 2, none⟩ = some (.string x.1) ∧ w.cell? ⟨g, k * 2 + 1, none⟩ = some (.int .i64 (x.2 : Int)) :=
  ⟨rowCell h hg (flat_get (m := 2) _ (fun _ => rfl) qs k 0 x hk (by omega)), rowCell h hg (flat_get (m := 2) _ (fun _ => rfl) qs k 1 x hk (by omega))⟩
theorem r_cells {w : World} {B : Nat} {v : Value} {rs : List RecW} (h : w.ownsRow B 122 4 v rs.length (rV rs)) {g k : Nat} {x : RecW} (hg : v.ownBlock = some g) (hk : rs[k]? = some x) :
    w.cell? ⟨g, k * 4, none⟩ = some (.string x.name) ∧ w.cell? ⟨g, k * 4 + 1, none⟩ = some (.int .i64 (x.type : Int)) ∧ w.cell? ⟨g, k * 4 + 2, none⟩ = some (.int .i64 (x.ttl : Int)) ∧ w.cell? ⟨g, k * 4 + 3, none⟩ = some (.string x.data) :=
  ⟨rowCell h hg (flat_get (m := 4) _ (fun _ => rfl) rs k 0 x hk (by omega)), rowCell h hg (flat_get (m := 4) _ (fun _ => rfl) rs k 1 x hk (by omega)), rowCell h hg (flat_get (m := 4) _ (fun _ => rfl) rs k 2 x hk (by omega)), rowCell h hg (flat_get (m := 4) _ (fun _ => rfl) rs k 3 x hk (by omega))⟩
/-- The address and the block of a row that holds something. -/
theorem own_addr {w : World} {B : Nat} {a : Option Addr} {n c : Nat} {e : TypeId} {size : Nat} {xs : List Value} (h : w.ownsRow B e size (.slice a n c) n xs) (hn : 0 < n) : ∃ g, a = some ⟨g, 0, none⟩ ∧ B ≤ g ∧ g < w.heap.size := by
  rcases h.2 with ⟨hv, h0⟩ | ⟨g, cap, cur, hv, hb, hg, _⟩
  · omega
  · injection hv with h1 h2 h3
    exact ⟨g, h1, hb, lt_of_heap hg⟩
theorem decOut_small {s : ByteArray} {qs : List (ByteArray × Nat)} {rs : List RecW} (h : DecOut s qs rs) : ∀ r ∈ rs, r.small := by
  obtain ⟨_, _, _, _, _, h4⟩ := h; exact h4
theorem questsP_len {s : ByteArray} : ∀ (k i : Nat) (acc out : List (List Nat)) (j : Nat), questsP s k i acc = some (out, j) → out.length = acc.length + k
  | 0, _, _, _, _, h => by simp [questsP] at h; simp [h.1]
  | k + 1, i, acc, out, j, h => by
    rw [questsP] at h
    split at h
    · cases h
    · have := questsP_len k _ _ _ _ h
      simp at this; omega
theorem recsP_len {s : ByteArray} : ∀ (k i : Nat) (acc out : List RecP) (j : Nat), recsP s k i acc = some (out, j) → out.length = acc.length + k
  | 0, _, _, _, _, h => by simp [recsP] at h; simp [h.1]
  | k + 1, i, acc, out, j, h => by
    rw [recsP] at h
    split at h
    · cases h
    · have := recsP_len k _ _ _ _ h
      simp at this; omega
theorem recsAre_len {rs : List RecW} {b : List RecP} (h : RecsAre rs b) : rs.length = b.length := by
  induction h with
  | nil => rfl
  | snoc _ _ ih => simp [ih]
theorem decodeP_len {s : ByteArray} {a : List (List Nat)} {b : List RecP} (h : decodeP s = some (a, b)) : a.length ≤ 8 ∧ b.length ≤ 32 := by
  unfold decodeP at h
  split at h
  · cases h
  · split at h
    · cases h
    · rename_i hb
      split at h
      · cases h
      · rename_i qs i hq
        split at h
        · cases h
        · rename_i rs j hr
          split at h
          · simp at h
            have h1 := questsP_len _ _ _ _ _ hq
            have h2 := recsP_len _ _ _ _ _ hr
            rw [← h.1, ← h.2]
            simp at h1 h2
            omega
          · cases h
theorem decOut_len {s : ByteArray} {qs : List (ByteArray × Nat)} {rs : List RecW} (h : DecOut s qs rs) : qs.length ≤ 8 ∧ rs.length ≤ 32 := by
  obtain ⟨a, b, h1, h2, h3, _⟩ := h
  have := decodeP_len h1
  have h4 := recsAre_len h3
  have h5 : qs.length = a.length := by have := congrArg List.length h2; simpa using this
  omega
theorem msgEv_len (dir : Int) (s : ByteArray) : (msgEv dir s).length ≤ 40 := by
  unfold msgEv
  split
  · simp
  · rename_i a b h
    have := decodeP_len h
    simp; omega
end Go.Proofs.Sess
namespace Go.Proofs.Sess
open Go Go.RowKit

theorem TabIn.drew' {B : Nat} {w : World} (h : TabIn B w) : TabIn B w.drew := h

/-- The session has told the events, on from the world W. -/
def MRel (W : World) (b mb : Nat) (ob : Option Nat) (cs : Array Value) (f : Int → Int → Int) (l : List Buf) (es : List Ev) (wr : World) : Prop := Told W b mb ob cs f l es wr

set_option maxRecDepth 100000 in
set_option maxHeartbeats 4000000 in
theorem message_sess (w : World) (b mb : Nat) (ob : Option Nat) (cs : Array Value) (f : Int → Int → Int) (l : List Buf) (dir : Int) (s : ByteArray) (N : Int) (B : Nat)
    (h : SessAt w b mb ob cs f l) (hf : CntLe f N) (hN : N < 100000) (hl : l.length < 100000) (hs : s.size < 1000000) (ht : TabIn B w) (hB : ∀ k ∈ foot b mb ob, B ≤ k) :
    Calls Tryz.prog 37 #[.pointer (some ⟨b, 0, none⟩), .int .i64 dir, .string s] w fun e w' => e = .returned (.tuple #[]) ∧ Told w b mb ob cs f l (msgEv dir s) w' := by
  have hfo : ∀ k ∈ foot b mb ob, k < w.heap.size := fun k hk => by
    simp only [foot, List.mem_append, List.mem_cons, List.not_mem_nil, or_false, Option.mem_toList] at hk
    rcases hk with (hk | hk) | hk
    · rw [hk]; exact h.lt
    · rw [hk]; exact h.ltm
    · exact h.lto hk
  have H := Lib.hid h
  have HT := Lib.hid ht
  have HF := Lib.hid hf
  have HFO := Lib.hid (And.intro hfo hB)
  clear h ht hf hfo hB
  go_enter Tryz.func37, Tryz.ntmps37
  go_wp2_with fail
  refine (decode_any w s hs).mono ?_
  rintro e w1 ⟨hk1, hd⟩
  rcases hd with ⟨hno, en, hen, rfl⟩ | ⟨qs, rs, x, y, qv, rv, ho, rfl, howq, howr⟩
  · have HK1 := Lib.hid (And.intro hk1 hno)
    clear hk1 hno
    have hen' : ((en : Int) != 0) = true := by simpa using hen
    clear hen
    have hc := HF.out 18 dir
    go_wp2_with (go_at_call 39; refine (find_sess _ b mb ob cs f l dir _ (H.out.keep (S := []) (HK1.out.1.alloc _) (by simp)) (by omega) hc.1 (by omega)).mono ?_; rintro e2 w2 hp; have HP := Lib.hid hp; obtain ⟨rfl, -⟩ := hp)
    refine bodyPost_ret (results_none rfl _ _ _) rfl ?_
    refine ⟨rfl, ?_⟩
    rw [msgEv_none dir HK1.out.2]
    obtain ⟨_, ob2, hs2, hm2⟩ := HP.out
    exact ⟨ob2, hs2, Mod.keeps_then (HK1.out.1.alloc _) hm2⟩
  · obtain ⟨qa, qc, rfl⟩ := own_slice howq
    obtain ⟨ra, rc, rfl⟩ := own_slice howr
    have hlen := decOut_len ho
    have HO := Lib.hid (And.intro hk1 (And.intro ho (And.intro howq howr)))
    clear hk1 ho howq howr
    go_upto_region 3 with fail
    have hk2 : Keeps [] w (w1.alloc (.cells #[.int .i64 x, .int .i64 y, .slice qa qs.length qc, .slice ra rs.length rc] 115)) := HO.out.1.alloc _
    have hd2 : (w1.alloc (.cells #[.int .i64 x, .int .i64 y, .slice qa qs.length qc, .slice ra rs.length rc] 115)).heap[w1.heap.size]? = some (.cells #[.int .i64 x, .int .i64 y, .slice qa qs.length qc, .slice ra rs.length rc] 115 (0, 0)) := heap_alloc_self
    have hq2 := HO.out.2.2.1.alloc (.cells #[.int .i64 x, .int .i64 y, .slice qa qs.length qc, .slice ra rs.length rc] 115)
    have hr2 := HO.out.2.2.2.alloc (.cells #[.int .i64 x, .int .i64 y, .slice qa qs.length qc, .slice ra rs.length rc] 115)
    have hz := HO.out.1.size
    have H2 := Lib.hid (And.intro hk2 (And.intro hd2 (And.intro hq2 hr2)))
    clear hk2 hd2 hq2 hr2
    revert H2
    generalize w1.alloc (.cells #[.int .i64 x, .int .i64 y, .slice qa qs.length qc, .slice ra rs.length rc] 115) = W
    intro H2
    generalize hdb : w1.heap.size = db at *
    have hndb : db ∉ foot b mb ob := fun hm => by have := HFO.out.1 db hm; omega
    have HM0 := Lib.hid (show MRel W b mb ob cs f l [] W from Told.nil (H.out.keep (S := []) H2.out.1 (by simp)))
    have d2 : W.cell? ⟨db, 2, none⟩ = some (.slice qa qs.length qc) := cell_of_heap H2.out.2.1 rfl
    have hq8 : qs.length ≤ 8 := hlen.1
    have hr32 : rs.length ≤ 32 := hlen.2
    have HND := Lib.hid hndb
    have HL := Lib.hid hlen
    clear hndb hlen
    go_upto_block 0 with fail
    go_cut [] (fun wx => MRel W b mb ob cs f l (evQ dir qs) wx)
    case first =>
      go_wp2_with fail
      go_loopw [25] (fun i wr => ∃ k : Nat, k ≤ qs.length ∧ i = .int .i64 k ∧ MRel W b mb ob cs f l (evQ dir (qs.take k)) wr) (fun i _ => qs.length - (intOf i).toNat)
      case atStart => exact ⟨0, Nat.zero_le _, rfl, HM0.out⟩
      case round =>
        obtain ⟨k, hk, rfl, hrel⟩ := hrel
        by_cases hlt : k < qs.length
        · obtain ⟨g, rfl, hg1, hg2⟩ := own_addr H2.out.2.2.1 (by omega)
          obtain ⟨q, hq⟩ : ∃ q, qs[k]? = some q := ⟨_, List.getElem?_eq_getElem hlt⟩
          obtain ⟨c0, c1⟩ := q_cells H2.out.2.2.1 rfl hq
          obtain ⟨ob1, hs1, hm1⟩ := hrel
          have hgF : g ∉ foot b mb ob := fun hm => by have := HFO.out.1 g hm; omega
          have e0 := hm1.keeps.cell c0 hgF
          have e1 := hm1.keeps.cell c1 hgF
          clear c0 c1
          have HS1 := Lib.hid (And.intro hs1 (And.intro hm1 (And.intro hq (HL.out))))
          clear hs1 hm1 hq hgF hg1 hg2 d2
          go_wp2_with fail
          have hlen : (evQ dir (qs.take k)).length = k := by simp [evQ]; omega
          have hcn := CntLe.ev (evQ dir (qs.take k)) HF.out 8 dir
          have hl8 := HS1.out.2.2.2
          refine (put_sess _ b mb ob1 cs _ _ 8 dir _ (HS1.out.1.keep (S := []) ((Keeps.refl _ _).alloc _) (by simp)) (by rw [List.length_append, evB_length, hlen]; omega) hcn.1 (by rw [hlen] at hcn; omega)).mono ?_
          rintro e w2 ⟨rfl, ob2, hs2, hm2⟩
          have HTT : Hid (MRel W b mb ob cs f l (evQ dir (qs.take (k + 1))) w2) := by
            show Told W b mb ob cs f l (evQ dir (qs.take (k + 1))) w2
            have e1 : evQ dir (qs.take (k + 1)) = evQ dir (qs.take k) ++ [⟨8, dir, q.1⟩] := by
              rw [List.take_add_one, HS1.out.2.2.1]; simp [evQ]
            rw [e1]
            exact Told.then (e := .returned (.tuple #[])) ((HS1.out.2.1).trans ⟨((Keeps.refl _ _).alloc _), fun k h => .inl h⟩) (w1 := wr.alloc (.cells #[.string q.1, .int .i64 (q.2 : Int)] 120)) ⟨rfl, ob2, hs2, hm2⟩
          clear hs2 hm2 hcn hlen hl8
          go_wp2_with fail
          go_roundw
          case rel => exact ⟨k + 1, by omega, by go_num, HTT.out⟩
          case measure => simp [intOf]; omega
        · have hkn : k = qs.length := by omega
          subst hkn
          have HTT := Lib.hid hrel
          clear hrel
          go_wp2_with fail
          go_meet
          have := HTT.out
          rw [List.take_length] at this
          exact this
    case rest =>
      have HM1 := Lib.hid hcut
      have hm0 : Keeps (foot b mb ob) W wc := by obtain ⟨ob1, hs1, hm1⟩ := hcut; exact hm1.keeps
      have d3 : wc.cell? ⟨db, 3, none⟩ = some (.slice ra rs.length rc) := hm0.cell (cell_of_heap H2.out.2.1 rfl) HND.out
      clear hcut hm0 HM0 d2
      go_wp2_with fail
      go_loopw [38] (fun i wr => ∃ k : Nat, k ≤ rs.length ∧ i = .int .i64 k ∧ MRel W b mb ob cs f l (evQ dir qs ++ evR dir (rs.take k)) wr) (fun i _ => rs.length - (intOf i).toNat)
      case atStart => exact ⟨0, Nat.zero_le _, rfl, by simpa [evR] using HM1.out⟩
      case round =>
        obtain ⟨k, hk, rfl, hrel⟩ := hrel
        by_cases hlt : k < rs.length
        · obtain ⟨g, rfl, hg1, hg2⟩ := own_addr H2.out.2.2.2 (by omega)
          obtain ⟨x, hq⟩ : ∃ q, rs[k]? = some q := ⟨_, List.getElem?_eq_getElem hlt⟩
          obtain ⟨c0, c1, c2, c3⟩ := r_cells H2.out.2.2.2 rfl hq
          obtain ⟨ob1, hs1, hm1⟩ := hrel
          have hgF : g ∉ foot b mb ob := fun hm => by have := HFO.out.1 g hm; omega
          have e0 := hm1.keeps.cell c0 hgF
          have e1 := hm1.keeps.cell c1 hgF
          have e2 := hm1.keeps.cell c2 hgF
          have e3 := hm1.keeps.cell c3 hgF
          clear c0 c1 c2 c3
          have hsm := decOut_small HO.out.2.1 x (List.mem_of_getElem? hq)
          have hta : TabIn B wr := (HT.out.keep H2.out.1 (by simp)).keep hm1.keeps HFO.out.2
          have HS1 := Lib.hid (And.intro hs1 (And.intro hm1 (And.intro hq (And.intro HL.out hta))))
          have HSM := Lib.hid hsm
          clear hs1 hm1 hq hgF hg1 hg2 hsm hta d3
          go_upto_region 11 with fail
          have hx0 : (wr.alloc (.cells #[.string x.name, .int .i64 (x.type : Int), .int .i64 (x.ttl : Int), .string x.data] 122)).heap[wr.heap.size]? = some (.cells #[.string x.name, .int .i64 (x.type : Int), .int .i64 (x.ttl : Int), .string x.data] 122 (0, 0)) := heap_alloc_self
          have hkx : Keeps [] wr (wr.alloc (.cells #[.string x.name, .int .i64 (x.type : Int), .int .i64 (x.ttl : Int), .string x.data] 122)) := (Keeps.refl _ _).alloc _
          have HX := Lib.hid (And.intro hx0 hkx)
          clear hx0 hkx e0 e1 e2 e3
          revert HX
          generalize wr.alloc (.cells #[.string x.name, .int .i64 (x.type : Int), .int .i64 (x.ttl : Int), .string x.data] 122) = WB
          intro HX
          generalize htb : wr.heap.size = tb at *
          have HTB := Lib.hid (show TabIn B WB from HS1.out.2.2.2.2.keep HX.out.2 (by simp))
          have hS : (fun wx : World => wx.cell? ⟨tb, 0, none⟩ = some (.string x.name) ∧ wx.cell? ⟨tb, 1, none⟩ = some (.int .i64 (x.type : Int)) ∧ wx.cell? ⟨tb, 3, none⟩ = some (.string x.data)) WB.drew := ⟨cell_of_heap (w := WB.drew) HX.out.1 rfl, cell_of_heap (w := WB.drew) HX.out.1 rfl, cell_of_heap (w := WB.drew) HX.out.1 rfl⟩
          have hn1 : x.name.size ≤ 253 := HSM.out.1
          have hn2 : x.data.size ≤ 100000 := HSM.out.2.2
          have hn3 := itoaS_size x.type HSM.out.2.1
          have ha1 : ¬ 9223372036854775807 < x.name.size + 1 := by omega
          have ha2 : ¬ 9223372036854775807 < x.name.size + 1 + (itoaS x.type).size := by omega
          have ha3 : ¬ 9223372036854775807 < x.name.size + 1 + (itoaS x.type).size + 1 := by omega
          have ha4 : ¬ 9223372036854775807 < x.name.size + 1 + (itoaS x.type).size + 1 + x.data.size := by omega
          refine wp_region_seq (fun wx : World => wx.cell? ⟨tb, 0, none⟩ = some (.string x.name) ∧ wx.cell? ⟨tb, 1, none⟩ = some (.int .i64 (x.type : Int)) ∧ wx.cell? ⟨tb, 3, none⟩ = some (.string x.data))
            [(0, 0), (1, 0), (2, 0), (3, 1), (4, 0), (5, 0), (6, 1), (10, 0), (11, 1), (7, 2), (8, 0), (9, 0), (12, 0), (13, 3)]
            [[13, 12, 9, 8, 4, 3], [13, 7, 6], [13, 12, 11]] (by kernel_rfl) (by kernel_rfl) (fun d _ _ _ _ h => by cases d <;> exact h) ?_
          simp only [picks, List.getD_cons_succ, List.getD_cons_zero]
          (refine seq_pure (v := ?_) (by rfl) ?_ ?_; rotate_left; focus (intro wq; first | (go_simp; done) | (go_simp; with_reducible rfl))); (try simp only [Act.put, List.setIfInBounds_toArray, List.set_cons_zero, List.set_cons_succ])
          (refine seq_pure (v := ?_) (by rfl) ?_ ?_; rotate_left; focus (intro wq; first | (go_simp; done) | (go_simp; with_reducible rfl))); (try simp only [Act.put, List.setIfInBounds_toArray, List.set_cons_zero, List.set_cons_succ])
          (refine seq_pure (v := ?_) (by rfl) ?_ ?_; rotate_left; focus (intro wq; first | (go_simp; done) | (go_simp; with_reducible rfl))); (try simp only [Act.put, List.setIfInBounds_toArray, List.set_cons_zero, List.set_cons_succ])
          (refine seq_read (v := ?_) hS (by rfl) ?_ ?_; rotate_left; focus (intro wq hSq; obtain ⟨hq1, hq2, hq3⟩ := hSq; first | (go_simp; done) | (go_simp; with_reducible rfl))); (try simp only [Act.put, List.setIfInBounds_toArray, List.set_cons_zero, List.set_cons_succ])
          (refine seq_pure (v := ?_) (by rfl) ?_ ?_; rotate_left; focus (intro wq; first | (go_simp; done) | (go_simp; with_reducible rfl))); (try simp only [Act.put, List.setIfInBounds_toArray, List.set_cons_zero, List.set_cons_succ])
          (refine seq_pure (v := ?_) (by rfl) ?_ ?_; rotate_left; focus (intro wq; first | (go_simp; done) | (go_simp; with_reducible rfl))); (try simp only [Act.put, List.setIfInBounds_toArray, List.set_cons_zero, List.set_cons_succ])
          (refine seq_read (v := ?_) hS (by rfl) ?_ ?_; rotate_left; focus (intro wq hSq; obtain ⟨hq1, hq2, hq3⟩ := hSq; first | (go_simp; done) | (go_simp; with_reducible rfl))); (try simp only [Act.put, List.setIfInBounds_toArray, List.set_cons_zero, List.set_cons_succ])
          (refine seq_pure (v := ?_) (by rfl) ?_ ?_; rotate_left; focus (intro wq; first | (go_simp; done) | (go_simp; with_reducible rfl))); (try simp only [Act.put, List.setIfInBounds_toArray, List.set_cons_zero, List.set_cons_succ])
          (refine seq_read (v := ?_) hS (by rfl) ?_ ?_; rotate_left; focus (intro wq hSq; obtain ⟨hq1, hq2, hq3⟩ := hSq; first | (go_simp; done) | (go_simp; with_reducible rfl))); (try simp only [Act.put, List.setIfInBounds_toArray, List.set_cons_zero, List.set_cons_succ])
          refine seq_act (fun K hK => ?_)
          go_simp
          refine (itoa_sess WB.drew x.type B HSM.out.2.1 (HTB.out.drew')).mono ?_
          rintro e w3 ⟨rfl, k3⟩
          have c30 : w3.cell? ⟨tb, 0, none⟩ = some (.string x.name) := k3.cell hS.1 (by simp)
          have c31 : w3.cell? ⟨tb, 1, none⟩ = some (.int .i64 (x.type : Int)) := k3.cell hS.2.1 (by simp)
          have c33 : w3.cell? ⟨tb, 3, none⟩ = some (.string x.data) := k3.cell hS.2.2 (by simp)
          have H3 := Lib.hid (show Keeps [] WB w3 from (Keeps.refl _ _).drew.trans k3 (by simp))
          clear k3
          refine hK.out _ _ (by exact ⟨c30, c31, c33⟩) ?_; clear hK; clear K
          (try simp only [Act.put, List.setIfInBounds_toArray, List.set_cons_zero, List.set_cons_succ])
          (refine seq_pure (v := ?_) (by rfl) ?_ ?_; rotate_left; focus (intro wq; first | (go_simp; done) | (go_simp; with_reducible rfl))); (try simp only [Act.put, List.setIfInBounds_toArray, List.set_cons_zero, List.set_cons_succ])
          (refine seq_pure (v := ?_) (by rfl) ?_ ?_; rotate_left; focus (intro wq; first | (go_simp; done) | (go_simp; with_reducible rfl))); (try simp only [Act.put, List.setIfInBounds_toArray, List.set_cons_zero, List.set_cons_succ])
          (refine seq_pure (v := ?_) (by rfl) ?_ ?_; rotate_left; focus (intro wq; first | (go_simp; done) | (go_simp; with_reducible rfl))); (try simp only [Act.put, List.setIfInBounds_toArray, List.set_cons_zero, List.set_cons_succ])
          refine seq_do (fun K hK => ?_)
          go_simp
          have hlen1 : (evQ dir qs ++ evR dir (rs.take k)).length = qs.length + k := by simp [evQ, evR]; omega
          have hcn := CntLe.ev (evQ dir qs ++ evR dir (rs.take k)) HF.out 9 dir
          have hk3 : Keeps [] wr w3 := HX.out.2.trans H3.out (by simp)
          refine (put_sess w3 b mb ob1 cs _ _ 9 dir _ (HS1.out.1.keep (S := []) hk3 (by simp)) (by rw [List.length_append, evB_length, hlen1]; omega) hcn.1 (by rw [hlen1] at hcn; omega)).mono ?_
          rintro e w4 ⟨rfl, ob2, hs2, hm2⟩
          have HTT : Hid (MRel W b mb ob cs f l (evQ dir qs ++ evR dir (rs.take (k + 1))) w4) := by
            show Told W b mb ob cs f l (evQ dir qs ++ evR dir (rs.take (k + 1))) w4
            have e1 : evQ dir qs ++ evR dir (rs.take (k + 1)) = (evQ dir qs ++ evR dir (rs.take k)) ++ [⟨9, dir, ansB x.name x.type x.data⟩] := by
              rw [List.take_add_one, HS1.out.2.2.1]; simp [evR]
            rw [e1]
            exact Told.then (e := .returned (.tuple #[])) ((HS1.out.2.1).trans ⟨hk3.mono (by simp), fun k h => .inl h⟩) (w1 := w3) ⟨rfl, ob2, hs2, hm2⟩
          clear hs2 hm2 hcn hlen1 hk3
          refine hK.out _ _ ?_; clear hK; clear K
          (try simp only [Act.put, List.setIfInBounds_toArray, List.set_cons_zero, List.set_cons_succ])
          refine seq_nil ?_
          clear hS c30 c31 c33
          go_wp2_with fail
          go_roundw
          case rel => exact ⟨k + 1, by omega, by go_num, HTT.out⟩
          case measure => simp [intOf]; omega
        · have hkn : k = rs.length := by omega
          subst hkn
          have HTT := Lib.hid hrel
          clear hrel
          go_wp2_with fail
          go_end0
          refine ⟨rfl, ?_⟩
          have h9 := HTT.out
          rw [List.take_length, ← msgEv_out dir HO.out.2.1] at h9
          obtain ⟨ob9, hs9, hm9⟩ := h9
          exact ⟨ob9, hs9, Mod.keeps_then H2.out.1 hm9⟩
end Go.Proofs.Sess
