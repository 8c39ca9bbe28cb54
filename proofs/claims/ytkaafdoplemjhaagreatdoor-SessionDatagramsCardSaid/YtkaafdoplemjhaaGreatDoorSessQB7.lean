/- A part of the proof that a session of datagrams answers as the reference (SessionDatagrams). Its contents: contracts of functions of the program, each stated with its premises. -/
import Derived.Test.YtkaafdoplemjhaaGreatDoorSessQB4
import Derived.Test.YtkaafdoplemjhaaGreatDoorSessQB5
import Derived.Test.YtkaafdoplemjhaaGreatDoorSessQB6
import Derived.Test.YtkaafdoplemjhaaGreatDoorSessQB2
import Derived.Deep.DeepCutAuto
import Derived.Deep.CutBlock
/- A new session of datagrams of the program, with certificates. -/
namespace Go.Proofs.Sess
open Go Go.RowKit

/-- Names that came in. -/
def NamesIn (w : World) (na : Option Addr) (nn nc : Nat) : Prop :=
  (na = none ∧ nn = 0 ∧ nc = 0) ∨ ∃ a zs, na = some a ∧ nn ≤ List.length zs ∧ (∀ j, j < List.length zs → w.cell? (a.add j) = some (.string (zs.getD j ByteArray.empty)))
/-- A certificate that came in. -/
def CertIn (w : World) (g o nn : Nat) : Prop :=
  ∃ (s1 s2 s3 s5 : ByteArray) (i1 i2 : Int) (na : Option Addr) (nc : Nat) (au : Bool), w.cell? ⟨g, o, none⟩ = some (.string s1) ∧ w.cell? ⟨g, o + 1, none⟩ = some (.string s2) ∧ w.cell? ⟨g, o + 2, none⟩ = some (.string s3) ∧
    w.cell? ⟨g, o + 3, none⟩ = some (.int .i64 i1) ∧ w.cell? ⟨g, o + 4, none⟩ = some (.int .i64 i2) ∧ w.cell? ⟨g, o + 5, none⟩ = some (.slice na nn nc) ∧ w.cell? ⟨g, o + 6, none⟩ = some (.bool au) ∧ w.cell? ⟨g, o + 7, none⟩ = some (.string s5) ∧ NamesIn w na nn nc
/-- The certificates that came in: ta: where; nns: how many names each has. -/
def TrustIn (w : World) (ta : Option Addr) (tn : Nat) (nns : Nat → Nat) : Prop := ∀ k, k < tn → ∃ g o, ta = some ⟨g, o, none⟩ ∧ CertIn w g (o + k * 8) (nns k)

theorem NamesIn.keep {w w' : World} {na : Option Addr} {nn nc : Nat} (h : NamesIn w na nn nc) (hk : Keeps [] w w') : NamesIn w' na nn nc := by
  rcases h with h | ⟨a, zs, h1, h2, h3⟩
  · exact .inl h
  · exact .inr ⟨a, zs, h1, h2, fun j hj => hk.cell (h3 j hj) (by simp)⟩
theorem CertIn.keep {w w' : World} {g o nn : Nat} (h : CertIn w g o nn) (hk : Keeps [] w w') : CertIn w' g o nn := by
  obtain ⟨s1, s2, s3, s5, i1, i2, na, nc, au, c0, c1, c2, c3, c4, c5, c6, c7, hn⟩ := h
  exact ⟨s1, s2, s3, s5, i1, i2, na, nc, au, hk.cell c0 (by simp), hk.cell c1 (by simp), hk.cell c2 (by simp), hk.cell c3 (by simp), hk.cell c4 (by simp), hk.cell c5 (by simp), hk.cell c6 (by simp), hk.cell c7 (by simp), hn.keep hk⟩
theorem TrustIn.keep {w w' : World} {ta : Option Addr} {tn : Nat} {nns : Nat → Nat} (h : TrustIn w ta tn nns) (hk : Keeps [] w w') : TrustIn w' ta tn nns := fun k hlt => by
  obtain ⟨g, o, h1, h2⟩ := h k hlt
  exact ⟨g, o, h1, h2.keep hk⟩
theorem add_zero_addr (a : Addr) : a.add 0 = a := by unfold Addr.add; simp
theorem spot_none {w : World} {a : Addr} {v : Value} (h : w.cell? a = some v) : a.spot = none := by
  unfold World.cell? at h
  cases hs : a.spot with
  | none => rfl
  | some x =>
    rw [hs] at h
    split at h <;> simp at h
theorem add_flat (g o j : Nat) : (⟨g, o, none⟩ : Addr).add j = ⟨g, o + j, none⟩ := by unfold Addr.add; split <;> simp_all
theorem clone_in (w : World) (na : Option Addr) (nn nc : Nat) (h : NamesIn w na nn nc) (h20 : nn ≤ 20) : Calls Tryz.prog 21 #[.slice na nn nc] w fun e w' => ∃ a' n' c', e = .returned (.slice a' n' c') ∧ Keeps [] w w' := by
  rcases h with ⟨rfl, rfl, rfl⟩ | ⟨a, zs, rfl, h2, h3⟩
  · refine (clone_nil 0 0 w).mono ?_
    rintro e w' ⟨rfl, rfl⟩
    exact ⟨none, 0, 0, rfl, Keeps.refl _ _⟩
  · by_cases h0 : nn = 0
    · subst h0
      refine (clone_zero a nc w).mono ?_
      rintro e w' ⟨v', rfl, ho, _, hb⟩
      obtain ⟨a', c', rfl⟩ := own_slice ho
      exact ⟨a', 0, c', rfl, Keeps.of_below hb⟩
    · have hs := h3 0 (by omega)
      rw [add_zero_addr] at hs
      have hsp := spot_none hs
      obtain ⟨g, o, sp⟩ := a
      simp at hsp
      subst hsp
      refine (clone_any g o nn nc zs w h2 (by omega) (fun j hj => by rw [← add_flat]; exact h3 j hj)).mono ?_
      rintro e w' ⟨v', rfl, ho, _, hb⟩
      obtain ⟨a', c', rfl⟩ := own_slice ho
      exact ⟨a', nn, c', rfl, Keeps.of_below hb⟩

set_option maxHeartbeats 800000 in
theorem begin_udp (w : World) (b : Nat) (h0 : w.cell? ⟨b, 0, none⟩ = some (.int .i64 17)) : Calls Tryz.prog 23 #[.pointer (some ⟨b, 0, none⟩)] w fun e w' => e = .returned (.tuple #[]) ∧ w = w' := by
  go_enter Tryz.func23, Tryz.ntmps23
  go_wp2
  refine bodyPost_ret (results_none rfl _ _ _) rfl ?_
  exact ⟨rfl, rfl⟩

theorem info49 : (Tryz.prog.info? 49).map (fun i => (i.zero, i.size, i.bytes)) = some (some (.agg #[.string ByteArray.empty, .string ByteArray.empty, .string ByteArray.empty, .int .i64 0, .int .i64 0, .slice none 0 0, .bool false, .string ByteArray.empty]), 8, 112) := by kernel_rfl
theorem _root_.Go.World.ownsRow.keep' {w w' : World} {B : Nat} {e : TypeId} {size : Nat} {v : Value} {n : Nat} {xs : List Value} (h : w.ownsRow B e size v n xs) (hk : Keeps [] w w') : w'.ownsRow B e size v n xs := hk.own h (by simp)
/-- The cells of a session that begins. -/
def NC (a b1 b2 : Int) (mb : Nat) : Array Value := #[.int .i64 17, .int .i64 a, .bool false, .slice none 0 0, .int .i64 b1, .int .i64 b2, .bool false, .bool false, .bool false, .bool false, .bool false, .bool false, .bool false, .map (some mb), .pointer none, .string ⟨#[]⟩, .bool false, .bool false, .bool false, .pointer none, .string ⟨#[]⟩, .bool false, .bool false, .bool false, .pointer none, .string ⟨#[]⟩, .bool false, .bool false, .bool false, .nilIface, .slice none 0 0, .int .i64 0]
/-- The cells of a session of datagrams, but for its windows. -/
structure PreU (cs : Array Value) (app : Int) : Prop where
  p : cs[0]? = some (.int .i64 17)
  a : cs[1]? = some (.int .i64 app)
  o1 : ∃ o : Bool, cs[7]? = some (.bool o)
  o2 : ∃ o : Bool, cs[8]? = some (.bool o)
  o3 : ∃ o : Bool, cs[9]? = some (.bool o)
  s1 : cs[20]? = some (.string ⟨#[]⟩)
  e1 : cs[22]? = some (.bool false)
  s2 : cs[25]? = some (.string ⟨#[]⟩)
  e2 : cs[27]? = some (.bool false)
  par : cs[29]? = some .nilIface
  last : ∃ n : Int, cs[31]? = some (.int .i64 n)
theorem PreU.any {cs : Array Value} {app : Int} (h : PreU cs app) {o : Nat} (_hs : cs.size = 32) (ho : o = 2 ∨ o = 19 ∨ o = 24) (v : Value) : PreU (cs.setIfInBounds o v) app := by
  have g : ∀ i, i ≠ o → (cs.setIfInBounds o v)[i]? = cs[i]? := fun i hi => Array.getElem?_setIfInBounds_ne (Ne.symm hi)
  exact ⟨(g _ (by omega)).trans h.p, (g _ (by omega)).trans h.a, by rw [g _ (by omega)]; exact h.o1, by rw [g _ (by omega)]; exact h.o2, by rw [g _ (by omega)]; exact h.o3, (g _ (by omega)).trans h.s1, (g _ (by omega)).trans h.e1, (g _ (by omega)).trans h.s2, (g _ (by omega)).trans h.e2, (g _ (by omega)).trans h.par, by rw [g _ (by omega)]; exact h.last⟩
theorem PreU.set1 {cs : Array Value} {app : Int} (h : PreU cs app) (hs : cs.size = 32) (n : Int) : PreU (cs.setIfInBounds 1 (.int .i64 n)) n := by
  have g : ∀ i, i ≠ 1 → (cs.setIfInBounds 1 (.int .i64 n))[i]? = cs[i]? := fun i hi => Array.getElem?_setIfInBounds_ne (Ne.symm hi)
  exact ⟨(g _ (by omega)).trans h.p, by rw [Array.getElem?_setIfInBounds_self_of_lt (by omega)], by rw [g _ (by omega)]; exact h.o1, by rw [g _ (by omega)]; exact h.o2, by rw [g _ (by omega)]; exact h.o3, (g _ (by omega)).trans h.s1, (g _ (by omega)).trans h.e1, (g _ (by omega)).trans h.s2, (g _ (by omega)).trans h.e2, (g _ (by omega)).trans h.par, by rw [g _ (by omega)]; exact h.last⟩
theorem SessAt.ex {w : World} {b mb : Nat} {ob : Option Nat} {cs : Array Value} {f : Int → Int → Int} {l : List Buf} (h : SessAt w b mb ob cs f l) (o : Nat) (ho : o < 32) (h30 : o ≠ 30) : ∃ v, w.cell? ⟨b, o, none⟩ = some v :=
  ⟨_, h.cell h30 (Array.getElem?_eq_getElem (by rw [h.size]; exact ho))⟩
/-- A new session of datagrams. -/
def UNew (w : World) (a : Int) (e : Ending) (w' : World) : Prop :=
  ∃ b mb wa wb cs, e = .returned (.pointer (some ⟨b, 0, none⟩)) ∧ SessAt w' b mb none cs (fun _ _ => 0) [] ∧ UCs cs (udpApp a) false false wa wb ∧ w'.heap[wa]? = some (WinObj 1 1 0 0 (.slice none 0 0)) ∧ w'.heap[wb]? = some (WinObj 1 2 0 0 (.slice none 0 0)) ∧
    w.heap.size ≤ b ∧ w.heap.size ≤ mb ∧ Keeps [] w w'

set_option maxRecDepth 100000 in
set_option maxHeartbeats 8000000 in
theorem sessNewU (w : World) (a b1 b2 : Int) (ta : Option Addr) (tn tc : Nat) (nns : Nat → Nat) (h : TrustIn w ta tn nns) (h4 : tn ≤ 4) (h20 : ∀ k, k < tn → nns k ≤ 20) :
    Calls Tryz.prog 12 #[.int .i64 17, .int .i64 a, .slice ta tn tc, .agg #[.int .i64 b1, .int .i64 b2]] w (UNew w a) := by
  have hmm := @run_makeMap Tryz.prog
  have HT := Lib.hid (And.intro h h20)
  clear h h20
  go_enter Tryz.func12, Tryz.ntmps12
  go_upto_region 2 with fail
  have hW : SessAt (((w.alloc (.cells #[.int .i64 b1, .int .i64 b2] 24)).alloc (.map #[] 0)).alloc (.cells (NC a b1 b2 (w.heap.size + 1)) 59)) (w.heap.size + 2) (w.heap.size + 1) none (NC a b1 b2 (w.heap.size + 1)) (fun _ _ => 0) [] := by
    refine ⟨rfl, rfl, ⟨[], 0, ⟨?_, by simp, by simp⟩, fun _ _ => rfl⟩, ⟨.slice none 0 0, ?_, rfl, World.ownsRow_nil _ _ _ _⟩, by simp⟩
    · simp only [alloc_get, alloc_size]; (repeat (first | rw [if_pos (by omega)] | rw [if_neg (by omega)])); rfl
    · simp only [alloc_get, alloc_size]; (repeat (first | rw [if_pos (by omega)] | rw [if_neg (by omega)])); rfl
  have hkW : Keeps [] w (((w.alloc (.cells #[.int .i64 b1, .int .i64 b2] 24)).alloc (.map #[] 0)).alloc (.cells (NC a b1 b2 (w.heap.size + 1)) 59)) := (((Keeps.refl _ _).alloc _).alloc _).alloc _
  have HW := Lib.hid (And.intro hW hkW)
  clear hW hkW hmm
  revert HW
  unfold NC
  rw [show w.heap.size + 1 + 1 = w.heap.size + 2 from rfl]
  generalize hmb : w.heap.size + 1 = mb
  have hb : w.heap.size + 2 = mb + 1 := by omega
  rw [hb]
  generalize hbb : mb + 1 = b at *
  intro HW
  revert HW
  generalize (((w.alloc (.cells #[.int .i64 b1, .int .i64 b2] 24)).alloc (.map #[] 0)).alloc (.cells (#[.int .i64 17, .int .i64 a, .bool false, .slice none 0 0, .int .i64 b1, .int .i64 b2, .bool false, .bool false, .bool false, .bool false, .bool false, .bool false, .bool false, .map (some mb), .pointer none, .string ⟨#[]⟩, .bool false, .bool false, .bool false, .pointer none, .string ⟨#[]⟩, .bool false, .bool false, .bool false, .pointer none, .string ⟨#[]⟩, .bool false, .bool false, .bool false, .nilIface, .slice none 0 0, .int .i64 0]) 59)) = W
  obtain ⟨cs0, hcs⟩ : ∃ c, c = NC a b1 b2 mb := ⟨_, rfl⟩
  rw [show (#[.int .i64 17, .int .i64 a, .bool false, .slice none 0 0, .int .i64 b1, .int .i64 b2, .bool false, .bool false, .bool false, .bool false, .bool false, .bool false, .bool false, .map (some mb), .pointer none, .string ⟨#[]⟩, .bool false, .bool false, .bool false, .pointer none, .string ⟨#[]⟩, .bool false, .bool false, .bool false, .pointer none, .string ⟨#[]⟩, .bool false, .bool false, .bool false, .nilIface, .slice none 0 0, .int .i64 0]) = cs0 from hcs.symm]
  intro HW
  have HCS := Lib.hid hcs
  clear hcs
  have hlb : w.heap.size ≤ b ∧ w.heap.size ≤ mb := by omega
  have hbW : b < W.heap.size := HW.out.1.lt
  have hmW : mb < W.heap.size := HW.out.1.ltm
  clear hb hbb hmb
  obtain ⟨i0, hi0, hz0, hz1, hz2⟩ := info_parts info49
  go_upto_block 0 with fail
  go_cut [] (fun wx => ∃ tv, SessAt wx b mb none (cs0.setIfInBounds 3 tv) (fun _ _ => 0) [] ∧ Keeps [] w wx)
  case first =>
    go_wp2_with fail
    go_loopw [22] (fun iv wr => ∃ (k : Nat) (ta' : Option Addr) (tc' : Nat) (xs : List Value), k ≤ tn ∧ iv = .int .i64 (k : Int) ∧ SessAt wr b mb none (cs0.setIfInBounds 3 (.slice ta' k tc')) (fun _ _ => 0) [] ∧ wr.ownsRow W.heap.size 49 8 (.slice ta' k tc') k xs ∧ Keeps [b] W wr) (fun iv _ => tn - (intOf iv).toNat)
    case atStart => exact ⟨0, none, 0, [], Nat.zero_le _, rfl, by rw [show cs0.setIfInBounds 3 (.slice none 0 0) = cs0 by rw [HCS.out]; rfl]; exact HW.out.1, World.ownsRow_nil _ _ _ _, Keeps.refl _ _⟩
    case round =>
      obtain ⟨k, ta', tc', xs, hk, rfl, hse, hro, hkp⟩ := hrel
      have hkw : Keeps [] w wr := HW.out.2.trans hkp (fun x hx hl => by simp at hx; omega)
      by_cases hlt : k < tn
      · obtain ⟨g, o, rfl, hce⟩ := HT.out.1 k hlt
        obtain ⟨s1, s2, s3, s5, i1, i2, na, nc, au, c0, c1, c2, c3, c4, c5, c6, c7, hn⟩ := hce.keep hkw
        have hn20 := HT.out.2 k hlt
        have HS := Lib.hid (And.intro hse (And.intro hro (And.intro hkp (And.intro hkw hn))))
        clear hse hro hkp hkw hn hce
        go_upto_region 5 with fail
        have hq : (wr.alloc (.cells #[.string s1, .string s2, .string s3, .int .i64 i1, .int .i64 i2, .slice na (nns k) nc, .bool au, .string s5] 49)).heap[wr.heap.size]? = some (.cells #[.string s1, .string s2, .string s3, .int .i64 i1, .int .i64 i2, .slice na (nns k) nc, .bool au, .string s5] 49 (0, 0)) := heap_alloc_self
        have hkx : Keeps [] wr (wr.alloc (.cells #[.string s1, .string s2, .string s3, .int .i64 i1, .int .i64 i2, .slice na (nns k) nc, .bool au, .string s5] 49)) := (Keeps.refl _ _).alloc _
        have HB := Lib.hid (And.intro hq hkx)
        clear hq hkx c0 c1 c2 c3 c4 c5 c6 c7
        revert HB
        generalize wr.alloc (.cells #[.string s1, .string s2, .string s3, .int .i64 i1, .int .i64 i2, .slice na (nns k) nc, .bool au, .string s5] 49) = W1
        intro HB
        generalize hqb : wr.heap.size = qb at *
        have n5 : W1.cell? ⟨qb, 5, none⟩ = some (.slice na (nns k) nc) := cell_of_heap HB.out.1 rfl
        go_upto_region 6 with (go_at_call 21; refine (clone_in W1 na (nns k) nc (HS.out.2.2.2.2.keep HB.out.2) hn20).mono ?_; rintro e w2 ⟨a', n', c', rfl, hk2⟩
                               have hq2 := hk2.heap HB.out.1 (by simp)
                               have d5 : w2.cell? ⟨qb, 5, none⟩ = some (.slice na (nns k) nc) := cell_of_heap hq2 rfl
                               have e5 : w2.frozen? ⟨qb, 5, none⟩ = false := free_of_heap hq2
                               have H2 := Lib.hid (And.intro hq2 hk2)
                               clear hk2 hq2 n5)
        clear d5 e5
        have hq3 : (w2.setCell ⟨qb, 5, none⟩ (.slice a' n' c')).heap[qb]? = some (.cells #[.string s1, .string s2, .string s3, .int .i64 i1, .int .i64 i2, (.slice a' n' c'), .bool au, .string s5] 49 (0, 0)) := by rw [heap_setCell_self H2.out.1]; rfl
        have hbq : b ≠ qb := by have := HS.out.1.lt; omega
        have hmq : mb ≠ qb := by have := HS.out.1.ltm; omega
        have hkr : Keeps [] wr w2 := HB.out.2.trans H2.out.2 (by simp)
        have hse3 : SessAt (w2.setCell ⟨qb, 5, none⟩ (.slice a' n' c')) b mb none (cs0.setIfInBounds 3 (.slice ta' k tc')) (fun _ _ => 0) [] := (HS.out.1.keep hkr (by simp)).keep (S := [qb]) ((Keeps.refl _ _).setCell (by simp) _) (by simp [foot]; exact ⟨hbq, hmq⟩)
        have hk3 : Keeps [] wr (w2.setCell ⟨qb, 5, none⟩ (.slice a' n' c')) := hkr.setCell (fun h => absurd h (by show ¬ qb < wr.heap.size; omega)) _
        have hkW3 := HS.out.2.2.1.trans (hk3.mono (by simp)) (fun _ h _ => h)
        have H3 := Lib.hid (And.intro hq3 (And.intro hse3 (And.intro hkW3 hkW3.size)))
        have HRO := Lib.hid (((HS.out.2.1.keep' hk3).drew).alloc (.cells #[.string s1, .string s2, .string s3, .int .i64 i1, .int .i64 i2, (.slice a' n' c'), .bool au, .string s5] 49))
        clear hq3 hse3 hk3 hkW3 hkr
        revert H3 HRO
        generalize w2.setCell ⟨qb, 5, none⟩ (.slice a' n' c') = W3
        intro H3 HRO
        have hsz3 := H3.out.2.1.size
        have hS : (fun wx : World => wx.cell? ⟨b, 3, none⟩ = some (.slice ta' k tc') ∧ wx.cell? ⟨qb, 0, none⟩ = some (.string s1) ∧ wx.cell? ⟨qb, 1, none⟩ = some (.string s2) ∧ wx.cell? ⟨qb, 2, none⟩ = some (.string s3) ∧ wx.cell? ⟨qb, 3, none⟩ = some (.int .i64 i1) ∧ wx.cell? ⟨qb, 4, none⟩ = some (.int .i64 i2) ∧ wx.cell? ⟨qb, 5, none⟩ = some ((.slice a' n' c')) ∧ wx.cell? ⟨qb, 6, none⟩ = some (.bool au) ∧ wx.cell? ⟨qb, 7, none⟩ = some (.string s5)) W3.drew := by
          refine ⟨?_, cell_of_heap (w := W3.drew) H3.out.1 rfl, cell_of_heap (w := W3.drew) H3.out.1 rfl, cell_of_heap (w := W3.drew) H3.out.1 rfl, cell_of_heap (w := W3.drew) H3.out.1 rfl, cell_of_heap (w := W3.drew) H3.out.1 rfl, cell_of_heap (w := W3.drew) H3.out.1 rfl, cell_of_heap (w := W3.drew) H3.out.1 rfl, cell_of_heap (w := W3.drew) H3.out.1 rfl⟩
          exact H3.out.2.1.cell (w := W3) (by decide) (by rw [Array.getElem?_setIfInBounds_self_of_lt (by simp at hsz3; omega)])
        refine wp_region_seq (fun wx : World => wx.cell? ⟨b, 3, none⟩ = some (.slice ta' k tc') ∧ wx.cell? ⟨qb, 0, none⟩ = some (.string s1) ∧ wx.cell? ⟨qb, 1, none⟩ = some (.string s2) ∧ wx.cell? ⟨qb, 2, none⟩ = some (.string s3) ∧ wx.cell? ⟨qb, 3, none⟩ = some (.int .i64 i1) ∧ wx.cell? ⟨qb, 4, none⟩ = some (.int .i64 i2) ∧ wx.cell? ⟨qb, 5, none⟩ = some ((.slice a' n' c')) ∧ wx.cell? ⟨qb, 6, none⟩ = some (.bool au) ∧ wx.cell? ⟨qb, 7, none⟩ = some (.string s5))
          [(0, 0), (1, 0), (2, 0), (3, 0), (4, 1), (5, 1), (6, 2), (7, 3), (8, 0), (9, 0), (10, 3)]
          [[7, 4], [7, 6, 5], [10, 4], [10, 5]] (by kernel_rfl) (by kernel_rfl) (fun d _ _ _ _ h => by cases d <;> exact h) ?_
        simp only [picks, List.getD_cons_succ, List.getD_cons_zero]
        (refine seq_pure (v := ?_) (by rfl) ?_ ?_; rotate_left; focus (intro wq; first | (go_simp; done) | (go_simp; with_reducible rfl))); (try simp only [Act.put, List.setIfInBounds_toArray, List.set_cons_zero, List.set_cons_succ])
        (refine seq_pure (v := ?_) (by rfl) ?_ ?_; rotate_left; focus (intro wq; first | (go_simp; done) | (go_simp; with_reducible rfl))); (try simp only [Act.put, List.setIfInBounds_toArray, List.set_cons_zero, List.set_cons_succ])
        (refine seq_pure (v := ?_) (by rfl) ?_ ?_; rotate_left; focus (intro wq; first | (go_simp; done) | (go_simp; with_reducible rfl))); (try simp only [Act.put, List.setIfInBounds_toArray, List.set_cons_zero, List.set_cons_succ])
        (refine seq_pure (v := ?_) (by rfl) ?_ ?_; rotate_left; focus (intro wq; first | (go_simp; done) | (go_simp; with_reducible rfl))); (try simp only [Act.put, List.setIfInBounds_toArray, List.set_cons_zero, List.set_cons_succ])
        (refine seq_read (v := ?_) hS (by rfl) ?_ ?_; rotate_left; focus (intro wq hSq; obtain ⟨hq1, hq2, hq3, hq4, hq5, hq6, hq7, hq8, hq9⟩ := hSq; first | (go_simp; done) | (go_simp; with_reducible rfl))); (try simp only [Act.put, List.setIfInBounds_toArray, List.set_cons_zero, List.set_cons_succ])
        (refine seq_read (v := ?_) hS (by rfl) ?_ ?_; rotate_left; focus (intro wq hSq; obtain ⟨hq1, hq2, hq3, hq4, hq5, hq6, hq7, hq8, hq9⟩ := hSq; first | (go_simp; done) | (go_simp; with_reducible rfl))); (try simp only [Act.put, List.setIfInBounds_toArray, List.set_cons_zero, List.set_cons_succ])
        refine seq_act (fun K hK => ?_)
        go_simp
        refine hK.out _ _ (by exact ⟨(Keeps.refl [] _ |>.alloc _).cell hS.1 (by simp), (Keeps.refl [] _ |>.alloc _).cell hS.2.1 (by simp), (Keeps.refl [] _ |>.alloc _).cell hS.2.2.1 (by simp), (Keeps.refl [] _ |>.alloc _).cell hS.2.2.2.1 (by simp), (Keeps.refl [] _ |>.alloc _).cell hS.2.2.2.2.1 (by simp), (Keeps.refl [] _ |>.alloc _).cell hS.2.2.2.2.2.1 (by simp), (Keeps.refl [] _ |>.alloc _).cell hS.2.2.2.2.2.2.1 (by simp), (Keeps.refl [] _ |>.alloc _).cell hS.2.2.2.2.2.2.2.1 (by simp), (Keeps.refl [] _ |>.alloc _).cell hS.2.2.2.2.2.2.2.2 (by simp)⟩) ?_; clear hK; clear K
        (try simp only [Act.put, List.setIfInBounds_toArray, List.set_cons_zero, List.set_cons_succ])
        refine seq_do (fun K hK => ?_)
        refine step_append_lies _ (by rfl) _ _ _ (by rfl) W.heap.size 49 i0 _ 8 112 Tryz.underlying22 hi0 hz0 hz1 hz2 rfl (by omega) (.slice ta' k tc') k xs (by rfl) HRO.out ⟨W3.heap.size, 0, none⟩ 1 1 [.string s1, .string s2, .string s3, .int .i64 i1, .int .i64 i2, (.slice a' n' c'), .bool au, .string s5] (by rfl) (by rfl) (World.news_of_block (heap_alloc_self (w := W3.drew))) (by simp [Value.oneCell']) (by omega) (by unfold maxLen; omega) (by omega) (by have := H3.out.2.2.2; simp; omega) (W3.heap.size + 1) (by simp) ?_
        intro gg cap w5 hown5 hgrow5 hat5 hlt5
        have hse5 := ((H3.out.2.1.keep (S := []) (((Keeps.refl _ _).drew).alloc (.cells #[.string s1, .string s2, .string s3, .int .i64 i1, .int .i64 i2, (.slice a' n' c'), .bool au, .string s5] 49)) (by simp)).keep (S := (Value.slice ta' k tc').ownBlock.toList) ((Keeps.refl _ _).grown hgrow5 (fun k hk' _ => by simp [hk'])) (fun q hq hm => by have h1 := (HRO.out.lt q (by simpa using hm)).1; simp [foot] at hq; omega))
        have c35 : w5.cell? ⟨b, 3, none⟩ = some (.slice ta' k tc') := hse5.cell (by decide) (by rw [Array.getElem?_setIfInBounds_self_of_lt (by have := hse5.size; simp at this; omega)])
        have f35 := hse5.free 3
        have hkk5 : Keeps [b] W w5 := (((H3.out.2.2.1.drew.alloc (.cells #[.string s1, .string s2, .string s3, .int .i64 i1, .int .i64 i2, (.slice a' n' c'), .bool au, .string s5] 49)).mono (T := [b] ++ (Value.slice ta' k tc').ownBlock.toList) (by intro x hx _; simp at hx; simp [hx])).grown hgrow5 (fun k hk' _ => by simp [hk'])).mono (fun x hx hl => by
          rcases List.mem_append.1 hx with hx | hx
          · exact hx
          · have h1 := (HRO.out.lt x (by simpa using hx)).1; omega)
        have H5 := Lib.hid (And.intro hown5 (And.intro hse5 hkk5))
        clear hown5 hgrow5 hat5 hlt5 hse5 hkk5
        refine hK.out _ _ ?_; clear hK; clear K
        (try simp only [Act.put, List.setIfInBounds_toArray, List.set_cons_zero, List.set_cons_succ])
        (refine seq_pure (v := ?_) (by rfl) ?_ ?_; rotate_left; focus (intro wq; first | (go_simp; done) | (go_simp; with_reducible rfl))); (try simp only [Act.put, List.setIfInBounds_toArray, List.set_cons_zero, List.set_cons_succ])
        (refine seq_pure (v := ?_) (by rfl) ?_ ?_; rotate_left; focus (intro wq; first | (go_simp; done) | (go_simp; with_reducible rfl))); (try simp only [Act.put, List.setIfInBounds_toArray, List.set_cons_zero, List.set_cons_succ])
        refine seq_do (fun K hK => ?_)
        go_simp
        refine hK.out _ _ ?_; clear hK; clear K
        (try simp only [Act.put, List.setIfInBounds_toArray, List.set_cons_zero, List.set_cons_succ])
        refine seq_nil ?_
        clear hS
        have hst := H5.out.2.1.store (o := 3) (by decide) (by decide) (.slice (some ⟨gg, 0, none⟩) (k + 1) cap)
        have hwr : (w5.setCell ⟨b, 3, none⟩ (.slice (some ⟨gg, 0, none⟩) (k + 1) cap)).ownsRow W.heap.size 49 8 (.slice (some ⟨gg, 0, none⟩) (k + 1) cap) (k + 1) _ := (show Keeps [b] w5 _ from (Keeps.refl _ _).setCell (by simp) _).own H5.out.1 (fun q hq => by have h1 := (H5.out.1.lt q hq).1; simp; omega)
        have H6 := Lib.hid (And.intro hst (And.intro hwr (H5.out.2.2.setCell (p := ⟨b, 3, none⟩) (by simp) (.slice (some ⟨gg, 0, none⟩) (k + 1) cap))))
        clear hst hwr c35 f35
        go_wp2_with fail
        go_roundw
        case rel =>
          refine ⟨k + 1, some ⟨gg, 0, none⟩, cap, _, by omega, by go_num, ?_, H6.out.2.1, H6.out.2.2⟩
          have := H6.out.1
          rw [Array.setIfInBounds_setIfInBounds] at this
          exact this
        case measure => simp [intOf]; omega
      · have hkn : k = tn := by omega
        subst hkn
        have HS := Lib.hid (And.intro hse hkw)
        clear hse hro hkp hkw
        go_wp2_with fail
        go_meet
        exact ⟨_, HS.out.1, HS.out.2⟩
  case rest =>
    obtain ⟨tv, hse, hkw⟩ := hcut
    have hpre : PreU (cs0.setIfInBounds 3 tv) a := by rw [HCS.out]; exact ⟨rfl, rfl, ⟨false, rfl⟩, ⟨false, rfl⟩, ⟨false, rfl⟩, rfl, rfl, rfl, rfl, rfl, ⟨0, rfl⟩⟩
    have HX := Lib.hid (And.intro hse (And.intro hpre hkw))
    clear hse hpre hkw HW HT HCS
    revert HX
    generalize wc = W4
    generalize cs0.setIfInBounds 3 tv = cs1
    intro HX
    go_upto_region 8 with fail
    go_cut [54] (fun bv wx => W4 = wx ∧ bv = .bool (decide (a ≠ 4)))
    case first =>
      by_cases h1 : a < 0
      · have HB := Lib.hid (show decide (a ≠ 4) = true from decide_eq_true (by omega))
        go_wp2_with fail
        go_meet
        exact ⟨rfl, by rw [HB.out]⟩
      · by_cases h2 : 4 < a
        · have HB := Lib.hid (show decide (a ≠ 4) = true from decide_eq_true (by omega))
          go_wp2_with fail
          go_meet
          exact ⟨rfl, by rw [HB.out]⟩
        · by_cases h3 : a = 4
          · subst h3
            go_wp2_with fail
            go_meet
            exact ⟨rfl, rfl⟩
          · have HB := Lib.hid (show decide (a ≠ 4) = true from decide_eq_true h3)
            have h3' : ((a : Int) != 4) = true := by simpa using h3
            clear h3
            go_wp2_with fail
            go_meet
            exact ⟨rfl, by rw [HB.out]⟩
    case rest =>
      obtain ⟨rfl, rfl⟩ := hcut
      go_upto_if 54 with fail
      go_cut [] (fun wx => ∃ cs2, SessAt wx b mb none cs2 (fun _ _ => 0) [] ∧ PreU cs2 (udpApp a) ∧ Keeps [] w wx)
      case first =>
        by_cases h3 : a = 4
        · subst h3
          go_wp2_with fail
          go_meet
          exact ⟨cs1, HX.out.1, HX.out.2.1, HX.out.2.2⟩
        · have hd : decide (a ≠ 4) = true := decide_eq_true h3
          have c1 := HX.out.1.cell (by decide) HX.out.2.1.a
          have f1 := HX.out.1.free 1
          have HU := Lib.hid (show udpApp a = 0 by unfold udpApp; rw [if_neg h3])
          have hst := HX.out.1.store (o := 1) (by decide) (by decide) (.int .i64 0)
          have HST := Lib.hid hst
          clear hst h3
          rw [hd]
          clear hd
          go_wp2_with fail
          go_meet
          exact ⟨_, HST.out, by rw [HU.out]; exact HX.out.2.1.set1 HX.out.1.size 0, HX.out.2.2.setCell (fun h => absurd h (by show ¬ b < w.heap.size; omega)) _⟩
      case rest =>
        obtain ⟨cs2, hse2, hpre2, hkw2⟩ := hcut
        have HX2 := Lib.hid (And.intro hse2 (And.intro hpre2 hkw2))
        clear hse2 hpre2 hkw2 HX
        revert HX2
        generalize wc = W5
        intro HX2
        go_upto_block 2 with fail
        have hk6 : Keeps [] W5 (W5.alloc (.cells #[.int .i64 1, .int .i64 2] 3)) := (Keeps.refl _ _).alloc _
        have hl6 : (W5.alloc (.cells #[.int .i64 1, .int .i64 2] 3)).heap[W5.heap.size]? = some (.cells #[.int .i64 1, .int .i64 2] 3 (0, 0)) := heap_alloc_self
        have H6 := Lib.hid (And.intro (HX2.out.1.keep hk6 (by simp)) (And.intro (HX2.out.2.2.trans hk6 (by simp)) hl6))
        have hlb6 : W5.heap.size < (W5.alloc (.cells #[.int .i64 1, .int .i64 2] 3)).heap.size := by simp
        have hb5 := HX2.out.1.lt
        have hm5 := HX2.out.1.ltm
        clear hk6 hl6
        revert H6 hlb6
        generalize W5.alloc (.cells #[.int .i64 1, .int .i64 2] 3) = W6
        intro H6 hlb6
        generalize hlb : W5.heap.size = lb at *
        have l0 : W6.cell? ⟨lb, 0, none⟩ = some (.int .i64 1) := cell_of_heap H6.out.2.2 rfl
        go_wp2_with fail
        refine wp_loop_rounds 3 ?_
        rw [rounds_succ]
        go_upto_region 13 with fail
        clear l0
        refine wp_region_seq (fun _ => True)
          [(0, 0), (1, 0), (2, 0), (4, 0), (5, 0), (3, 3), (6, 0), (7, 0), (8, 3)]
          [] (by kernel_rfl) (by kernel_rfl) (fun d _ _ _ _ h => by cases d <;> exact h) ?_
        simp only [picks, List.getD_cons_succ, List.getD_cons_zero]
        (refine seq_pure (v := ?_) (by rfl) ?_ ?_; rotate_left; focus (intro wq; first | (go_simp; done) | (go_simp; with_reducible rfl))); (try simp only [Act.put, List.setIfInBounds_toArray, List.set_cons_zero, List.set_cons_succ])
        (refine seq_pure (v := ?_) (by rfl) ?_ ?_; rotate_left; focus (intro wq; first | (go_simp; done) | (go_simp; with_reducible rfl))); (try simp only [Act.put, List.setIfInBounds_toArray, List.set_cons_zero, List.set_cons_succ])
        (refine seq_pure (v := ?_) (by rfl) ?_ ?_; rotate_left; focus (intro wq; first | (go_simp; done) | (go_simp; with_reducible rfl))); (try simp only [Act.put, List.setIfInBounds_toArray, List.set_cons_zero, List.set_cons_succ])
        (refine seq_pure (v := ?_) (by rfl) ?_ ?_; rotate_left; focus (intro wq; first | (go_simp; done) | (go_simp; with_reducible rfl))); (try simp only [Act.put, List.setIfInBounds_toArray, List.set_cons_zero, List.set_cons_succ])
        (refine seq_pure (v := ?_) (by rfl) ?_ ?_; rotate_left; focus (intro wq; first | (go_simp; done) | (go_simp; with_reducible rfl))); (try simp only [Act.put, List.setIfInBounds_toArray, List.set_cons_zero, List.set_cons_succ])
        refine seq_do (fun K hK => ?_)
        go_simp
        refine (winNew_any _ 1 1).mono ?_
        rintro e v0 ⟨rfl, hv⟩
        have hk0 : Keeps [] W6 v0 := by rw [hv]; exact (Keeps.refl _ _).drew.alloc _
        have hw0 : v0.heap[W6.heap.size]? = some (WinObj 1 1 0 0 (.slice none 0 0)) := by rw [hv]; exact heap_alloc_self (w := W6.drew)
        have hr0 := H6.out.1.keep (S := []) hk0 (by simp)
        obtain ⟨y19, c19⟩ := hr0.ex 19 (by omega) (by omega)
        have f19 := hr0.free 19
        have HV0 := Lib.hid (And.intro hr0 (And.intro hk0 hw0))
        clear hv hk0 hr0 hw0
        refine hK.out _ _ ?_; clear hK; clear K
        (try simp only [Act.put, List.setIfInBounds_toArray, List.set_cons_zero, List.set_cons_succ])
        (refine seq_pure (v := ?_) (by rfl) ?_ ?_; rotate_left; focus (intro wq; first | (go_simp; done) | (go_simp; with_reducible rfl))); (try simp only [Act.put, List.setIfInBounds_toArray, List.set_cons_zero, List.set_cons_succ])
        (refine seq_pure (v := ?_) (by rfl) ?_ ?_; rotate_left; focus (intro wq; first | (go_simp; done) | (go_simp; with_reducible rfl))); (try simp only [Act.put, List.setIfInBounds_toArray, List.set_cons_zero, List.set_cons_succ])
        refine seq_do (fun K hK => ?_)
        go_simp
        refine hK.out _ _ ?_; clear hK; clear K
        (try simp only [Act.put, List.setIfInBounds_toArray, List.set_cons_zero, List.set_cons_succ])
        refine seq_nil ?_
        have hne0 : W6.heap.size ≠ b := by omega
        have hs0 := HV0.out.1.store (o := 19) (by decide) (by decide) (.pointer (some ⟨W6.heap.size, 0, none⟩))
        have hk70 : Keeps [b] v0 (v0.setCell ⟨b, 19, none⟩ (.pointer (some ⟨W6.heap.size, 0, none⟩))) := (Keeps.refl _ _).setCell (by simp) _
        have hl7 := hk70.heap (HV0.out.2.1.heap H6.out.2.2 (by simp)) (by simp; omega)
        have hw7 := hk70.heap HV0.out.2.2 (by simpa using hne0)
        have hkw7 : Keeps [] w (v0.setCell ⟨b, 19, none⟩ (.pointer (some ⟨W6.heap.size, 0, none⟩))) := (H6.out.2.1.trans HV0.out.2.1 (by simp)).trans hk70 (fun x hx hl => by simp at hx; omega)
        have hsz7 : W6.heap.size < v0.heap.size := lt_of_heap HV0.out.2.2
        have H7 := Lib.hid (And.intro hs0 (And.intro hl7 (And.intro hw7 hkw7)))
        clear hs0 hk70 hl7 hw7 hkw7 c19 f19
        revert H7
        generalize v0.setCell ⟨b, 19, none⟩ (.pointer (some ⟨W6.heap.size, 0, none⟩)) = W7
        intro H7
        have hlt7 : W6.heap.size < W7.heap.size := lt_of_heap H7.out.2.2.1
        have hbt7 := H7.out.1.lt
        have hlt7' := lt_of_heap H7.out.2.1
        generalize hwa : W6.heap.size = wa at *
        have l1 : W7.cell? ⟨lb, 1, none⟩ = some (.int .i64 2) := cell_of_heap H7.out.2.1 rfl
        go_wp2_with fail
        rw [rounds_succ]
        go_upto_region 13 with fail
        clear l1
        refine wp_region_seq (fun _ => True)
          [(0, 0), (1, 0), (2, 0), (4, 0), (5, 0), (3, 3), (6, 0), (7, 0), (8, 3)]
          [] (by kernel_rfl) (by kernel_rfl) (fun d _ _ _ _ h => by cases d <;> exact h) ?_
        simp only [picks, List.getD_cons_succ, List.getD_cons_zero]
        (refine seq_pure (v := ?_) (by rfl) ?_ ?_; rotate_left; focus (intro wq; first | (go_simp; done) | (go_simp; with_reducible rfl))); (try simp only [Act.put, List.setIfInBounds_toArray, List.set_cons_zero, List.set_cons_succ])
        (refine seq_pure (v := ?_) (by rfl) ?_ ?_; rotate_left; focus (intro wq; first | (go_simp; done) | (go_simp; with_reducible rfl))); (try simp only [Act.put, List.setIfInBounds_toArray, List.set_cons_zero, List.set_cons_succ])
        (refine seq_pure (v := ?_) (by rfl) ?_ ?_; rotate_left; focus (intro wq; first | (go_simp; done) | (go_simp; with_reducible rfl))); (try simp only [Act.put, List.setIfInBounds_toArray, List.set_cons_zero, List.set_cons_succ])
        (refine seq_pure (v := ?_) (by rfl) ?_ ?_; rotate_left; focus (intro wq; first | (go_simp; done) | (go_simp; with_reducible rfl))); (try simp only [Act.put, List.setIfInBounds_toArray, List.set_cons_zero, List.set_cons_succ])
        (refine seq_pure (v := ?_) (by rfl) ?_ ?_; rotate_left; focus (intro wq; first | (go_simp; done) | (go_simp; with_reducible rfl))); (try simp only [Act.put, List.setIfInBounds_toArray, List.set_cons_zero, List.set_cons_succ])
        refine seq_do (fun K hK => ?_)
        go_simp
        refine (winNew_any _ 1 2).mono ?_
        rintro e v1 ⟨rfl, hv⟩
        have hk1 : Keeps [] W7 v1 := by rw [hv]; exact (Keeps.refl _ _).drew.alloc _
        have hw1 : v1.heap[W7.heap.size]? = some (WinObj 1 2 0 0 (.slice none 0 0)) := by rw [hv]; exact heap_alloc_self (w := W7.drew)
        have hr1 := H7.out.1.keep (S := []) hk1 (by simp)
        obtain ⟨y24, c24⟩ := hr1.ex 24 (by omega) (by omega)
        have f24 := hr1.free 24
        have HV1 := Lib.hid (And.intro hr1 (And.intro hk1 hw1))
        clear hv hk1 hr1 hw1
        refine hK.out _ _ ?_; clear hK; clear K
        (try simp only [Act.put, List.setIfInBounds_toArray, List.set_cons_zero, List.set_cons_succ])
        (refine seq_pure (v := ?_) (by rfl) ?_ ?_; rotate_left; focus (intro wq; first | (go_simp; done) | (go_simp; with_reducible rfl))); (try simp only [Act.put, List.setIfInBounds_toArray, List.set_cons_zero, List.set_cons_succ])
        (refine seq_pure (v := ?_) (by rfl) ?_ ?_; rotate_left; focus (intro wq; first | (go_simp; done) | (go_simp; with_reducible rfl))); (try simp only [Act.put, List.setIfInBounds_toArray, List.set_cons_zero, List.set_cons_succ])
        refine seq_do (fun K hK => ?_)
        go_simp
        refine hK.out _ _ ?_; clear hK; clear K
        (try simp only [Act.put, List.setIfInBounds_toArray, List.set_cons_zero, List.set_cons_succ])
        refine seq_nil ?_
        have hne1 : W7.heap.size ≠ b := by omega
        have hs1 := HV1.out.1.store (o := 24) (by decide) (by decide) (.pointer (some ⟨W7.heap.size, 0, none⟩))
        have hk80 : Keeps [b] v1 (v1.setCell ⟨b, 24, none⟩ (.pointer (some ⟨W7.heap.size, 0, none⟩))) := (Keeps.refl _ _).setCell (by simp) _
        have hw8 := hk80.heap (HV1.out.2.1.heap H7.out.2.2.1 (by simp)) (by simp; omega)
        have hx8 := hk80.heap HV1.out.2.2 (by simpa using hne1)
        have hkw8 : Keeps [] w (v1.setCell ⟨b, 24, none⟩ (.pointer (some ⟨W7.heap.size, 0, none⟩))) := (H7.out.2.2.2.trans HV1.out.2.1 (by simp)).trans hk80 (fun x hx hl => by simp at hx; omega)
        have H8 := Lib.hid (And.intro hs1 (And.intro hw8 (And.intro hx8 hkw8)))
        clear hs1 hk80 hw8 hx8 hkw8 c24 f24
        revert H8
        generalize v1.setCell ⟨b, 24, none⟩ (.pointer (some ⟨W7.heap.size, 0, none⟩)) = W8
        intro H8
        generalize hwb : W7.heap.size = wb at *
        have hp8 := (HX2.out.2.1.any (o := 19) HX2.out.1.size (by omega) (.pointer (some ⟨wa, 0, none⟩))).any (o := 24) (by simp [HX2.out.1.size]) (by omega) (.pointer (some ⟨wb, 0, none⟩))
        have c1 := H8.out.1.cell (o := 1) (by decide) hp8.a
        obtain ⟨y2, c2⟩ := H8.out.1.ex 2 (by omega) (by omega)
        have f2 := H8.out.1.free 2
        have hst := H8.out.1.store (o := 2) (by decide) (by decide) (.bool (udpApp a != 0))
        have d0 := hst.cell (o := 0) (by decide) (hp8.any (o := 2) (by simp [HX2.out.1.size]) (by omega) (.bool (udpApp a != 0))).p
        have H9 := Lib.hid (And.intro hst hp8)
        clear hst hp8
        go_wp2_with fail
        rw [rounds_succ]
        go_wp2_with (go_at_call 23; refine (begin_udp _ b d0).mono ?_; rintro e w' ⟨rfl, rfl⟩)
        go_ret
        have hb9 : b ≠ wa ∧ b ≠ wb := ⟨Ne.symm hne0, Ne.symm hne1⟩
        refine ⟨b, mb, wa, wb, _, rfl, H9.out.1, ?_, (heap_setCell_far (a := ⟨b, 2, none⟩) (Ne.symm hb9.1) _).trans H8.out.2.1, (heap_setCell_far (a := ⟨b, 2, none⟩) (Ne.symm hb9.2) _).trans H8.out.2.2.1, by omega, by omega, H8.out.2.2.2.setCell (fun h => absurd h (by show ¬ b < w.heap.size; omega)) _⟩
        have hq := H9.out.2
        have hszc := HX2.out.1.size
        have hq2 := hq.any (o := 2) (by simp [hszc]) (by omega) (.bool (udpApp a != 0))
        exact ⟨hq2.p, hq2.a, hq2.o1, hq2.o2, hq2.o3, by rw [Array.getElem?_setIfInBounds_ne (by decide), Array.getElem?_setIfInBounds_ne (by decide), Array.getElem?_setIfInBounds_self_of_lt (by omega)], hq2.s1, hq2.e1, by rw [Array.getElem?_setIfInBounds_ne (by decide), Array.getElem?_setIfInBounds_self_of_lt (by simp; omega)], hq2.s2, hq2.e2, hq2.par, hq2.last⟩
end Go.Proofs.Sess
/- few. -/
namespace Go.Proofs.Sess
open Go Go.RowKit

structure CallW where
  k : Int
  a : Int
  d : Int
  n : Int
  s : ByteArray
/-- The calls that came in. -/
def CallsAt (w : World) (la : Option Addr) (ln : Nat) (cl : Nat → CallW) : Prop := ∀ i, i < ln → ∃ g o, la = some ⟨g, o, none⟩ ∧
  w.cell? ⟨g, o + i * 5, none⟩ = some (.int .i64 (cl i).k) ∧ w.cell? ⟨g, o + i * 5 + 1, none⟩ = some (.int .i64 (cl i).a) ∧ w.cell? ⟨g, o + i * 5 + 2, none⟩ = some (.int .i64 (cl i).d) ∧ w.cell? ⟨g, o + i * 5 + 3, none⟩ = some (.int .i64 (cl i).n) ∧ w.cell? ⟨g, o + i * 5 + 4, none⟩ = some (.string (cl i).s)
theorem CallsAt.keep {w w' : World} {la : Option Addr} {ln : Nat} {cl : Nat → CallW} (h : CallsAt w la ln cl) {S : List Nat} (hk : Keeps S w w') (hS : ∀ k ∈ S, w.heap.size ≤ k) : CallsAt w' la ln cl := fun i hi => by
  obtain ⟨g, o, h1, c0, c1, c2, c3, c4⟩ := h i hi
  have hg : g ∉ S := fun hm => by have h1 := hS g hm; have := World.block_lt_of_cell? w _ c0; simp at this; omega
  exact ⟨g, o, h1, hk.cell c0 hg, hk.cell c1 hg, hk.cell c2 hg, hk.cell c3 hg, hk.cell c4 hg⟩

def FewP (tn : Nat) (nns : Nat → Nat) (ln : Nat) (cl : Nat → CallW) : Prop := ln ≤ 40 ∧ tn ≤ 4 ∧ (∀ i, i < ln → (cl i).s.size ≤ 20000) ∧ (∀ k, k < tn → nns k ≤ 20)
def Few (w : World) (tn : Nat) (nns : Nat → Nat) (ln : Nat) (cl : Nat → CallW) (e : Ending) (w' : World) : Prop :=
  ∃ r : Bool, e = .returned (.bool r) ∧ Keeps [] w w' ∧ (r = true → FewP tn nns ln cl)

set_option maxRecDepth 100000 in
set_option maxHeartbeats 4000000 in
theorem few_any (w : World) (app b1 b2 : Int) (ta la : Option Addr) (tn tc ln lc : Nat) (nns : Nat → Nat) (cl : Nat → CallW) (ht : TrustIn w ta tn nns) (hc : CallsAt w la ln cl) :
    Calls Tryz.prog 11 #[.agg #[.int .i64 app, .slice ta tn tc, .int .i64 b1, .int .i64 b2], .slice la ln lc] w (Few w tn nns ln cl) := by
  have hk0 : Keeps [] w (w.alloc (.cells #[.int .i64 app, .slice ta tn tc, .int .i64 b1, .int .i64 b2] 26)) := (Keeps.refl _ _).alloc _
  have H := Lib.hid (And.intro (ht.keep hk0) (And.intro (hc.keep hk0 (by simp)) hk0))
  clear ht hc hk0
  go_enter Tryz.func11, Tryz.ntmps11
  by_cases h40 : (40 : Int) < (ln : Int)
  · go_wp2_with fail
    go_ret
    exact ⟨false, rfl, H.out.2.2, by simp⟩
  · by_cases h4 : (4 : Int) < (tn : Int)
    · go_wp2_with fail
      go_ret
      exact ⟨false, rfl, H.out.2.2, by simp⟩
    · go_upto_region 4 with fail
      have c1 : (w.alloc (.cells #[.int .i64 app, .slice ta tn tc, .int .i64 b1, .int .i64 b2] 26)).cell? ⟨w.heap.size, 1, none⟩ = some (.slice ta tn tc) := cell_of_heap heap_alloc_self rfl
      revert H c1
      generalize w.alloc (.cells #[.int .i64 app, .slice ta tn tc, .int .i64 b1, .int .i64 b2] 26) = W
      intro H c1
      go_upto_block 0 with fail
      go_cut [5] (fun nv wx => W = wx ∧ (∃ m : Nat, nv = .int .i64 (m : Int) ∧ m ≤ 800000) ∧ ∀ i, i < ln → (cl i).s.size ≤ 20000)
      case first =>
        go_wp2_with fail
        go_loop [5, 6] (fun nv iv => ∃ i m : Nat, iv = .int .i64 (i : Int) ∧ nv = .int .i64 (m : Int) ∧ i ≤ ln ∧ m ≤ 20000 * i ∧ ∀ j, j < i → (cl j).s.size ≤ 20000) (fun _ iv => ln - (intOf iv).toNat)
        case atStart => exact ⟨0, 0, rfl, rfl, Nat.zero_le _, by omega, by omega⟩
        case round =>
          obtain ⟨i, m, rfl, rfl, hi, hm, hj⟩ := hrel
          have HJ := Lib.hid hj
          clear hj
          by_cases hlt : i < ln
          · obtain ⟨g, o, rfl, d0, d1, d2, d3, d4⟩ := H.out.2.1 i hlt
            clear d0 d1 d2 d3
            have hi40 : i ≤ 40 := by omega
            by_cases hbig : (20000 : Int) < ((cl i).s.size : Int)
            · go_wp2_with fail
              go_ret
              exact ⟨false, rfl, H.out.2.2, by simp⟩
            · have hsz : (cl i).s.size ≤ 20000 := by omega
              have HN := Lib.hid (show ∀ j, j < i + 1 → (cl j).s.size ≤ 20000 from fun j hj => by
                by_cases hji : j = i
                · rw [hji]; exact hsz
                · exact HJ.out j (by omega))
              go_wp2_with fail
              go_round
              case rel => exact ⟨i + 1, m + (cl i).s.size, by go_num, by go_num, by omega, by omega, HN.out⟩
              case measure => simp [intOf]; omega
          · have hie : i = ln := by omega
            subst hie
            go_wp2_with fail
            go_meet
            exact ⟨rfl, ⟨m, rfl, by omega⟩, HJ.out⟩
      case rest =>
        obtain ⟨rfl, ⟨m, rfl, hm⟩, hj⟩ := hcut
        have HJ := Lib.hid hj
        clear hj
        go_upto_block 2 with fail
        go_cut [] (fun wx => W = wx ∧ ∀ i, i < tn → nns i ≤ 20)
        case first =>
          go_wp2_with fail
          go_loop [7] (fun iv => ∃ i : Nat, iv = .int .i64 (i : Int) ∧ i ≤ tn ∧ ∀ j, j < i → nns j ≤ 20) (fun iv => tn - (intOf iv).toNat)
          case atStart => exact ⟨0, rfl, Nat.zero_le _, by omega⟩
          case round =>
            obtain ⟨i, rfl, hi, hj⟩ := hrel
            have HJ2 := Lib.hid hj
            clear hj
            by_cases hlt : i < tn
            · obtain ⟨g, o, rfl, s1, s2, s3, s5, i1, i2, na, nc, au, d0, d1, d2, d3, d4, d5, d6, d7, dn⟩ := H.out.1 i hlt
              clear d0 d1 d2 d3 d4 d6 d7 dn
              have hi40 : i ≤ 4 := by omega
              by_cases hbig : (20 : Int) < ((nns i : Nat) : Int)
              · go_wp2_with fail
                go_ret
                exact ⟨false, rfl, H.out.2.2, by simp⟩
              · have HN := Lib.hid (show ∀ j, j < i + 1 → nns j ≤ 20 from fun j hj => by
                  by_cases hji : j = i
                  · rw [hji]; omega
                  · exact HJ2.out j (by omega))
                go_wp2_with fail
                go_round
                case rel => exact ⟨i + 1, by go_num, by omega, HN.out⟩
                case measure => simp [intOf]; omega
            · have hie : i = tn := by omega
              subst hie
              go_wp2_with fail
              go_meet
              exact ⟨rfl, HJ2.out⟩
        case rest =>
          obtain ⟨rfl, hj2⟩ := hcut
          have HJ2 := Lib.hid hj2
          clear hj2
          go_wp2_with fail
          go_ret
          exact ⟨_, rfl, H.out.2.2, fun _ => ⟨by omega, by omega, HJ.out, HJ2.out⟩⟩
end Go.Proofs.Sess
