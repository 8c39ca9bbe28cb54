/- A part of the proof that a session of datagrams answers as the reference (SessionDatagrams). Its contents: contracts of functions of the program, each stated with its premises. -/
import Derived.Test.YtkaafdoplemjhaaGreatDoorSessQB4
import Derived.Laws.AppendOwnNone
import Derived.Deep.QuietTactic
import Derived.BigQuiet
/- The calls of the reference's session of datagrams. -/
namespace Go.Proofs.Sess
open Go Go.RowKit

def RDone (w : World) (b : Nat) (f : Int → Int → Int) (app : Int) (es : List Ev) (x : Bool × Bool) (e : Ending) (w' : World) : Prop :=
  ∃ v cs', e = .returned v ∧ RefAt w' b cs' (evF f es) app x.1 x.2 ∧ w'.ownsRow w.heap.size 39 4 v es.length (bufsV (evB f es)) ∧ Keeps [b] w w'
theorem RDone.nil {w w' : World} {b : Nat} {f : Int → Int → Int} {app : Int} {x : Bool × Bool} {cs : Array Value} (h : RefAt w' b cs f app x.1 x.2) (hk : Keeps [b] w w') : RDone w b f app [] x (.returned (.slice none 0 0)) w' :=
  ⟨_, cs, rfl, h, World.ownsRow_nil _ _ _ _, hk⟩
theorem RDone.one {w w1 w' : World} {b : Nat} {f : Int → Int → Int} {app : Int} {x : Bool × Bool} {es : List Ev} {e : Ending} (h : ROne w1 b f app x.1 x.2 es e w') (hk : Keeps [b] w w1) : RDone w b f app es x e w' := by
  obtain ⟨v, cs, h1, h2, h3, h4⟩ := h
  refine ⟨v, cs, h1, h2, ⟨h3.1, ?_⟩, hk.trans h4 (fun _ h _ => h)⟩
  rcases h3.2 with g2 | ⟨g, cap, cur, hv, hb, rest⟩
  · exact .inl g2
  · exact .inr ⟨g, cap, cur, hv, Nat.le_trans hk.size hb, rest⟩
theorem bufsV_one' (l : List Buf) : ∀ u ∈ bufsV l, u.oneCell' = true := by
  intro u hu
  simp only [bufsV, List.mem_flatMap] at hu
  obtain ⟨x, _, hx⟩ := hu
  simp [bufV] at hx
  rcases hx with rfl | rfl | rfl | rfl <;> rfl

set_option maxRecDepth 100000 in
set_option maxHeartbeats 1600000 in
theorem reffeed_no (w : World) (b : Nat) (cs : Array Value) (f : Int → Int → Int) (app at_ dir : Int) (e1 e2 : Bool) (s : ByteArray) (h : RefAt w b cs f app e1 e2) (hno : usableB dir e1 e2 = false ∨ s.size = 0) :
    Calls Tryz.prog 47 #[.pointer (some ⟨b, 0, none⟩), .int .i64 at_, .int .i64 dir, .string s] w fun e w' => e = .returned (.slice none 0 0) ∧ w = w' := by
  have HU := Lib.hid (refright w b cs f app dir e1 e2 h)
  clear h
  cases hu : usableB dir e1 e2
  · rw [hu] at HU
    go_enter Tryz.func47, Tryz.ntmps47
    go_wp2_with (go_at_call 69; refine HU.out.mono ?_; rintro e w' ⟨rfl, rfl⟩)
    go_ret
    exact ⟨rfl, rfl⟩
  · have hs' := toList_nil (hno.resolve_left (by rw [hu]; simp))
    rw [hu] at HU
    clear hno
    go_enter Tryz.func47, Tryz.ntmps47
    go_wp2_with (go_at_call 69; refine HU.out.mono ?_; rintro e w' ⟨rfl, rfl⟩)
    go_ret
    exact ⟨rfl, rfl⟩

set_option maxRecDepth 100000 in
set_option maxHeartbeats 4000000 in
theorem reffeed_yes (w : World) (b : Nat) (cs : Array Value) (f : Int → Int → Int) (app at_ dir : Int) (e1 e2 : Bool) (s : ByteArray) (N : Int) (h : RefAt w b cs f app e1 e2) (hu : usableB dir e1 e2 = true) (hs : s.size ≠ 0) (hs1 : s.size < 1000000) (hf : CntLe f N) (hN : N < 80000) :
    Calls Tryz.prog 47 #[.pointer (some ⟨b, 0, none⟩), .int .i64 at_, .int .i64 dir, .string s] w (RDone w b f app (pktEv app dir s) (e1, e2)) := by
  obtain ⟨i0, hi0, hz0, hz1, hz2⟩ := info_parts info39v
  have hdir : dir = 1 ∨ dir = 2 := by rcases usableB_spec.1 hu with ⟨h, _⟩ | ⟨h, _⟩ <;> simp [h]
  have HU := Lib.hid (refright w b cs f app dir e1 e2 h)
  rw [hu] at HU
  have hse : s.toList.isEmpty = false := toList_some hs
  obtain ⟨l0, hl0⟩ := h.last
  have c52 := h.cell hl0
  have f52 := h.free 52
  have hst := h.store (o := 52) (v := .int .i64 at_) (.inl ⟨rfl, at_, rfl⟩)
  have hks : Keeps [b] w (w.setCell ⟨b, 52, none⟩ (.int .i64 at_)) := (Keeps.refl _ _).setCell (by simp) _
  have d0 := hst.cell hst.p
  have hbl := lt_of_heap h.heap
  have H := Lib.hid (And.intro hst hks)
  have HF := Lib.hid hf
  clear h hst hks hl0 hs hf
  go_enter Tryz.func47, Tryz.ntmps47
  go_upto_region 5 with (go_at_call 69; refine HU.out.mono ?_; rintro e w' ⟨rfl, rfl⟩)
  clear d0
  revert H
  generalize hWe : w.setCell ⟨b, 52, none⟩ (.int .i64 at_) = W
  intro H
  clear hWe
  have hbW : b < W.heap.size := lt_of_heap H.out.1.heap
  go_upto_region 6 with (go_at_call 70; refine (refoneI W b _ f app e1 e2 2 dir s N H.out.1 (by omega) (by omega) hdir HF.out (by omega)).mono ?_; rintro e w1 hq; have H1 := Lib.hid hq; obtain ⟨v1, cs1, rfl, -⟩ := hq)
  obtain ⟨v1', cs1', hv1, hr1, ho1, hk1⟩ := H1.out
  injection hv1 with hv1
  subst hv1
  obtain ⟨a1, c1, rfl⟩ := own_slice ho1
  have g1 := hr1.cell hr1.a
  have H2 := Lib.hid (And.intro hr1 (And.intro ho1 hk1))
  have hf1 := HF.out.ev [⟨2, dir, s⟩]
  have HF1 := Lib.hid hf1
  have hsz1 := hk1.size
  clear hr1 ho1 hk1 hf1
  by_cases happ : app = 4
  · subst happ
    go_upto_region 7 with fail
    go_wp2_with fail
    refine (refmessage w1 b _ _ 4 dir e1 e2 s _ H2.out.1 hdir HF1.out (by simp; omega) hs1).mono ?_
    rintro e w2 ⟨v2, cs2, rfl, hr2, ho2, hk2⟩
    obtain ⟨a2, c2, rfl⟩ := own_slice ho2
    have ho1' := hk2.own H2.out.2.1 (fun g hg => by have := (H2.out.2.1.lt g hg).1; simp; omega)
    have hlm := msgEv_len dir s
    have hpe : pktEv 4 dir s = ⟨2, dir, s⟩ :: msgEv dir s := rfl
    have hkw : Keeps [b] w w2 := (H.out.2.trans H2.out.2.2 (fun _ h _ => h)).trans hk2 (fun _ h _ => h)
    have hszw := H.out.2.size
    have H3 := Lib.hid (And.intro hr2 (And.intro ho2 (And.intro hk2 (And.intro ho1' (And.intro hpe hkw)))))
    have hsz2 := hk2.size
    clear hr2 ho2 hk2 ho1' hpe hkw
    cases a2 with
    | none =>
      have hm0 : (msgEv dir s).length = 0 ∧ c2 = 0 := by
        rcases H3.out.2.1.2 with ⟨g1, g2⟩ | ⟨g, cap, cur, g1, _⟩
        · injection g1 with _ _ g3; exact ⟨g2, g3⟩
        · cases g1
      obtain ⟨hm0, rfl⟩ := hm0
      have hmn := List.length_eq_zero_iff.1 hm0
      rw [hm0]
      have HMN := Lib.hid hmn
      clear hmn hm0
      go_wp2_with (refine wpList_append_own_none (by rfl) _ _ _ (by rfl) W.heap.size 39 i0 4 Tryz.underlying34 hi0 (.slice a1 1 c1) 1 (bufsV (evB f [⟨2, dir, s⟩])) (by rfl) H3.out.2.2.2.1 (by rfl) ?_)
      go_ret
      refine ⟨_, cs2, rfl, ?_, ?_, H3.out.2.2.2.2.2⟩
      · have := H3.out.1
        rw [H3.out.2.2.2.2.1, HMN.out] at *
        exact this
      · rw [H3.out.2.2.2.2.1, HMN.out]
        have h9 := H3.out.2.2.2.1
        refine ⟨h9.1, ?_⟩
        rcases h9.2 with g2 | ⟨g, cap, cur, hv, hb, rest⟩
        · exact .inl g2
        · exact .inr ⟨g, cap, cur, hv, by omega, rest⟩
    | some ad =>
      obtain ⟨g2, rfl⟩ : ∃ g2, ad = ⟨g2, 0, none⟩ := by
        rcases H3.out.2.1.2 with ⟨g1, g2⟩ | ⟨g, cap, cur, g1, _⟩
        · cases g1
        · injection g1 with g3 _ _; injection g3 with g4; exact ⟨g, g4⟩
      have hcells := H3.out.2.1.cells (g := g2) rfl
      have HCE := Lib.hid hcells
      have hlb := H3.out.2.1.1
      clear hcells
      go_wp2_with (refine wpList_append_own _ (by rfl) _ _ _ (by rfl) W.heap.size 39 i0 _ 4 40 Tryz.underlying34 hi0 hz0 hz1 hz2 rfl (by omega) (.slice a1 1 c1) 1 (bufsV (evB f [⟨2, dir, s⟩])) (by rfl) H3.out.2.2.2.1 ⟨g2, 0, none⟩ (msgEv dir s).length c2 (bufsV (evB (evF f [⟨2, dir, s⟩]) (msgEv dir s))) (by rfl) hlb HCE.out (bufsV_one' _) (by unfold maxLen; omega) (by omega) (by omega) ?_
                   intro v5 w5 hown5 hgrow5 hnil5
                   have H5 := Lib.hid (And.intro hown5 hgrow5)
                   clear hown5 hgrow5 hnil5)
      go_ret
      have hg1 : ∀ g, (Value.slice a1 1 c1).ownBlock = some g → W.heap.size ≤ g := fun g hg => (H3.out.2.2.2.1.lt g hg).1
      refine ⟨v5, cs2, rfl, ?_, ?_, ?_⟩
      · rw [H3.out.2.2.2.2.1]
        exact H3.out.1.keep (S := (Value.slice a1 1 c1).ownBlock.toList) ((Keeps.refl _ _).grown H5.out.2 (fun k hk' _ => by simp [hk'])) (fun hm => by have := hg1 b (by simpa using hm); omega)
      · rw [H3.out.2.2.2.2.1]
        have h9 := H5.out.1
        rw [show 1 + (msgEv dir s).length = (⟨2, dir, s⟩ :: msgEv dir s : List Ev).length by simp; omega] at h9
        rw [show bufsV (evB f (⟨2, dir, s⟩ :: msgEv dir s)) = bufsV (evB f [⟨2, dir, s⟩]) ++ bufsV (evB (evF f [⟨2, dir, s⟩]) (msgEv dir s)) by rw [← bufsV_append]; rfl]
        refine ⟨h9.1, ?_⟩
        rcases h9.2 with g2 | ⟨g, cap, cur, hv, hb, rest⟩
        · exact .inl g2
        · exact .inr ⟨g, cap, cur, hv, by omega, rest⟩
      · refine ((H3.out.2.2.2.2.2.mono (T := [b] ++ (Value.slice a1 1 c1).ownBlock.toList) (by intro x hx _; simp at hx; simp [hx])).grown H5.out.2 (fun k hk' _ => by simp [hk'])).mono (fun x hx hl => ?_)
        rcases List.mem_append.1 hx with hx | hx
        · exact hx
        · have := hg1 x (by simpa using hx); omega
  · have happ' : (app == 4) = false := by simpa using happ
    have hpe : pktEv app dir s = [⟨2, dir, s⟩] := by unfold pktEv; rw [if_neg happ]
    have HP := Lib.hid hpe
    clear hpe happ
    go_wp2_with fail
    go_ret
    rw [HP.out]
    exact RDone.one H1.out H.out.2
end Go.Proofs.Sess
/- The other calls of the reference's session of datagrams. -/
namespace Go.Proofs.Sess
open Go Go.RowKit

set_option maxRecDepth 100000 in
set_option maxHeartbeats 1600000 in
theorem refgap (w : World) (b : Nat) (cs : Array Value) (f : Int → Int → Int) (app dir n : Int) (e1 e2 : Bool) (h : RefAt w b cs f app e1 e2) :
    Calls Tryz.prog 48 #[.pointer (some ⟨b, 0, none⟩), .int .i64 dir, .int .i64 n] w fun e w' => e = .returned (.slice none 0 0) ∧ w = w' := by
  have HU := Lib.hid (refright w b cs f app dir e1 e2 h)
  have c0 := h.cell h.p
  clear h
  cases hu : usableB dir e1 e2
  · rw [hu] at HU
    go_enter Tryz.func48, Tryz.ntmps48
    go_wp2_with (go_at_call 69; refine HU.out.mono ?_; rintro e w' ⟨rfl, rfl⟩)
    go_ret
    exact ⟨rfl, rfl⟩
  · rw [hu] at HU
    by_cases hn : n < 1
    · go_enter Tryz.func48, Tryz.ntmps48
      go_wp2_with (go_at_call 69; refine HU.out.mono ?_; rintro e w' ⟨rfl, rfl⟩)
      go_ret
      exact ⟨rfl, rfl⟩
    · go_enter Tryz.func48, Tryz.ntmps48
      go_wp2_with (go_at_call 69; refine HU.out.mono ?_; rintro e w' ⟨rfl, rfl⟩)
      go_ret
      exact ⟨rfl, rfl⟩

set_option maxRecDepth 100000 in
set_option maxHeartbeats 1600000 in
theorem reffinish (w : World) (b : Nat) (cs : Array Value) (f : Int → Int → Int) (app at_ dir : Int) (e1 e2 : Bool) (h : RefAt w b cs f app e1 e2) :
    Calls Tryz.prog 49 #[.pointer (some ⟨b, 0, none⟩), .int .i64 at_, .int .i64 dir] w (RDone w b f app [] (endE dir e1 e2)) := by
  have HU := Lib.hid (refright w b cs f app dir e1 e2 h)
  unfold endE
  cases hu : usableB dir e1 e2
  · rw [hu] at HU
    have H := Lib.hid h
    clear h
    rw [if_neg (by simp)]
    go_enter Tryz.func49, Tryz.ntmps49
    go_wp2_with (go_at_call 69; refine HU.out.mono ?_; rintro e w' ⟨rfl, rfl⟩)
    go_ret
    exact RDone.nil H.out (Keeps.refl _ _)
  · rw [hu] at HU
    rw [if_pos rfl]
    obtain ⟨l0, hl0⟩ := h.last
    have c52 := h.cell hl0
    have f52 := h.free 52
    have hst := h.store (o := 52) (v := .int .i64 at_) (.inl ⟨rfl, at_, rfl⟩)
    have d0 := hst.cell hst.p
    have hks : Keeps [b] w (w.setCell ⟨b, 52, none⟩ (.int .i64 at_)) := (Keeps.refl _ _).setCell (by simp) _
    rcases usableB_spec.1 hu with ⟨rfl, rfl⟩ | ⟨rfl, rfl⟩
    · have d45 := hst.cell hst.e1
      have f45 := hst.free 45
      have H := Lib.hid (And.intro hst.end1 (hks.setCell (p := ⟨b, 45, none⟩) (by simp) (.bool true)))
      rw [if_pos rfl]
      clear h hst hks hl0
      go_enter Tryz.func49, Tryz.ntmps49
      go_wp2_with (go_at_call 69; refine HU.out.mono ?_; rintro e w' ⟨rfl, rfl⟩)
      go_ret
      exact RDone.nil H.out.1 H.out.2
    · have d46 := hst.cell hst.e2
      have f46 := hst.free 46
      have H := Lib.hid (And.intro hst.end2 (hks.setCell (p := ⟨b, 46, none⟩) (by simp) (.bool true)))
      rw [if_neg (by decide)]
      clear h hst hks hl0
      go_enter Tryz.func49, Tryz.ntmps49
      go_wp2_with (go_at_call 69; refine HU.out.mono ?_; rintro e w' ⟨rfl, rfl⟩)
      go_ret
      exact RDone.nil H.out.1 H.out.2

set_option maxRecDepth 100000 in
set_option maxHeartbeats 1600000 in
theorem refnote_no (w : World) (b : Nat) (cs : Array Value) (f : Int → Int → Int) (app dir : Int) (e1 e2 : Bool) (s : ByteArray) (h : RefAt w b cs f app e1 e2) (hno : usableB dir e1 e2 = false ∨ s.size = 0) :
    Calls Tryz.prog 51 #[.pointer (some ⟨b, 0, none⟩), .int .i64 dir, .string s] w fun e w' => e = .returned (.slice none 0 0) ∧ w = w' := by
  have HU := Lib.hid (refright w b cs f app dir e1 e2 h)
  clear h
  cases hu : usableB dir e1 e2
  · rw [hu] at HU
    go_enter Tryz.func51, Tryz.ntmps51
    go_wp2_with (go_at_call 69; refine HU.out.mono ?_; rintro e w' ⟨rfl, rfl⟩)
    go_ret
    exact ⟨rfl, rfl⟩
  · have hs' := toList_nil (hno.resolve_left (by rw [hu]; simp))
    rw [hu] at HU
    clear hno
    go_enter Tryz.func51, Tryz.ntmps51
    go_wp2_with (go_at_call 69; refine HU.out.mono ?_; rintro e w' ⟨rfl, rfl⟩)
    go_ret
    exact ⟨rfl, rfl⟩

set_option maxRecDepth 100000 in
set_option maxHeartbeats 1600000 in
theorem refnote_yes (w : World) (b : Nat) (cs : Array Value) (f : Int → Int → Int) (app dir : Int) (e1 e2 : Bool) (s : ByteArray) (N : Int) (h : RefAt w b cs f app e1 e2) (hu : usableB dir e1 e2 = true) (hs : s.size ≠ 0) (hf : CntLe f N) (hN : N < 80000) :
    Calls Tryz.prog 51 #[.pointer (some ⟨b, 0, none⟩), .int .i64 dir, .string s] w (RDone w b f app [⟨18, dir, s⟩] (e1, e2)) := by
  have hdir : dir = 1 ∨ dir = 2 := by rcases usableB_spec.1 hu with ⟨h, _⟩ | ⟨h, _⟩ <;> simp [h]
  have HU := Lib.hid (refright w b cs f app dir e1 e2 h)
  rw [hu] at HU
  have hse : s.toList.isEmpty = false := toList_some hs
  have HO := Lib.hid (refoneI w b cs f app e1 e2 18 dir s N h (by omega) (by omega) hdir hf (by omega))
  clear h hf hs
  go_enter Tryz.func51, Tryz.ntmps51
  go_wp2_with (first
    | (go_at_call 69; refine HU.out.mono ?_; rintro e w' ⟨rfl, rfl⟩)
    | (go_at_call 70; refine HO.out.mono ?_; rintro e w1 hq; have H1 := Lib.hid hq; obtain ⟨v1, cs1, rfl, -⟩ := hq))
  go_ret
  exact RDone.one H1.out (Keeps.refl _ _)

set_option maxRecDepth 100000 in
set_option maxHeartbeats 1600000 in
theorem refoff (w : World) (b : Nat) (cs : Array Value) (f : Int → Int → Int) (app k : Int) (e1 e2 o : Bool) (h : RefAt w b cs f app e1 e2) :
    Calls Tryz.prog 50 #[.pointer (some ⟨b, 0, none⟩), .int .i64 k, .bool o] w fun e w' => e = .returned (.tuple #[]) ∧ ∃ cs', RefAt w' b cs' f app e1 e2 ∧ Keeps [b] w w' := by
  obtain ⟨o1, q1⟩ := h.n1
  obtain ⟨o2, q2⟩ := h.n2
  obtain ⟨o3, q3⟩ := h.n3
  have c1 := h.cell q1
  have c2 := h.cell q2
  have c3 := h.cell q3
  have f1 := h.free 53
  have f2 := h.free 54
  have f3 := h.free 55
  have s1 := h.store (o := 53) (v := .bool o) (.inr ⟨.inl rfl, o, rfl⟩)
  have s2 := h.store (o := 54) (v := .bool o) (.inr ⟨.inr (.inl rfl), o, rfl⟩)
  have s3 := h.store (o := 55) (v := .bool o) (.inr ⟨.inr (.inr rfl), o, rfl⟩)
  have kk : ∀ i, Keeps [b] w (w.setCell ⟨b, i, none⟩ (.bool o)) := fun i => (Keeps.refl _ _).setCell (by simp) _
  have H := Lib.hid (And.intro h (And.intro s1 (And.intro s2 (And.intro s3 kk))))
  clear h s1 s2 s3 kk q1 q2 q3
  by_cases h1 : k = 1
  · subst h1
    go_enter Tryz.func50, Tryz.ntmps50
    go_wp2_with fail
    go_end0
    exact ⟨rfl, _, H.out.2.1, H.out.2.2.2.2 53⟩
  · by_cases h2 : k = 2
    · subst h2
      go_enter Tryz.func50, Tryz.ntmps50
      go_wp2_with fail
      go_end0
      exact ⟨rfl, _, H.out.2.2.1, H.out.2.2.2.2 54⟩
    · by_cases h3 : k = 3
      · subst h3
        go_enter Tryz.func50, Tryz.ntmps50
        go_wp2_with fail
        go_end0
        exact ⟨rfl, _, H.out.2.2.2.1, H.out.2.2.2.2 55⟩
      · have q1 : (k == 1) = false := by simpa using h1
        have q2 : (k == 2) = false := by simpa using h2
        have q3 : (k == 3) = false := by simpa using h3
        clear h1 h2 h3
        go_enter Tryz.func50, Tryz.ntmps50
        go_wp2_with fail
        go_end0
        exact ⟨rfl, _, H.out.1, Keeps.refl _ _⟩

theorem refapp (w : World) (b : Nat) (cs : Array Value) (f : Int → Int → Int) (app : Int) (e1 e2 : Bool) (h : RefAt w b cs f app e1 e2) :
    Calls Tryz.prog 28 #[.pointer (some ⟨b, 0, none⟩)] w fun e w' => e = .returned (.int .i64 app) ∧ w = w' := by
  have c1 := h.cell h.a
  clear h
  go_enter Tryz.func28, Tryz.ntmps28
  go_wp2_with fail
  go_ret
  exact ⟨rfl, rfl⟩

set_option maxRecDepth 100000 in
set_option maxHeartbeats 1600000 in
theorem refsize (w : World) (b : Nat) (cs : Array Value) (f : Int → Int → Int) (app : Int) (e1 e2 : Bool) (h : RefAt w b cs f app e1 e2) :
    Calls Tryz.prog 29 #[.pointer (some ⟨b, 0, none⟩)] w fun e w' => e = .returned (.int .i64 0) ∧ Keeps [] w w' := by
  have c0 := h.cell h.p
  have c1 := h.cell h.s1
  have c2 := h.cell h.s2
  have c3 := h.cell h.tw
  clear h
  go_enter Tryz.func29, Tryz.ntmps29
  go_wp2_with fail
  go_quiet (fail)
  go_wp2_with fail
  go_ret
  exact ⟨rfl, (Keeps.refl _ _).drewN _⟩
end Go.Proofs.Sess
namespace Go.Proofs.Sess
open Go Go.RowKit

theorem usable_not {d : Int} {e1 e2 : Bool} {s : ByteArray} (hu : ¬ (usableB d e1 e2 = true ∧ s.size ≠ 0)) : usableB d e1 e2 = false ∨ s.size = 0 := by
  by_cases h1 : usableB d e1 e2 = true
  · by_cases h2 : s.size = 0
    · exact .inr h2
    · exact absurd ⟨h1, h2⟩ hu
  · left; simpa using h1
theorem RDone.after {w w1 w' : World} {b : Nat} {f : Int → Int → Int} {app : Int} {x : Bool × Bool} {es : List Ev} {e : Ending} (h : RDone w1 b f app es x e w') (hk : Keeps [b] w w1) : RDone w b f app es x e w' := by
  obtain ⟨v, cs, h1, h2, h3, h4⟩ := h
  refine ⟨v, cs, h1, h2, ⟨h3.1, ?_⟩, hk.trans h4 (fun _ h _ => h)⟩
  rcases h3.2 with g2 | ⟨g, cap, cur, hv, hb, rest⟩
  · exact .inl g2
  · exact .inr ⟨g, cap, cur, hv, Nat.le_trans hk.size hb, rest⟩

set_option maxRecDepth 100000 in
set_option maxHeartbeats 4000000 in
theorem refplain (w : World) (b : Nat) (cs : Array Value) (f : Int → Int → Int) (k a d n app : Int) (s : ByteArray) (e1 e2 : Bool) (N : Int)
    (h : RefAt w b cs f app e1 e2) (hf : CntLe f N) (hN : N < 80000) (hs1 : s.size < 1000000) :
    Calls Tryz.prog 27 #[.pointer (some ⟨b, 0, none⟩), .agg #[.int .i64 k, .int .i64 a, .int .i64 d, .int .i64 n, .string s]] w (RDone w b f app (uEv app e1 e2 k d s) (uEnd e1 e2 k d)) := by
  have hk1 : Keeps [] w (w.alloc (.cells #[.int .i64 k, .int .i64 a, .int .i64 d, .int .i64 n, .string s] 37)) := (Keeps.refl _ _).alloc _
  have hk0 : Keeps [b] w (w.alloc (.cells #[.int .i64 k, .int .i64 a, .int .i64 d, .int .i64 n, .string s] 37)) := hk1.mono (by simp)
  have H := Lib.hid (And.intro (h.keep hk1 (by simp)) (And.intro hf hk0))
  clear h hf hk1 hk0
  by_cases k0 : k = 0
  · subst k0
    have he : uEnd e1 e2 0 d = (e1, e2) := rfl
    rw [he]
    clear he
    by_cases hu : usableB d e1 e2 = true ∧ s.size ≠ 0
    · have hev : uEv app e1 e2 0 d s = pktEv app d s := by unfold uEv; rw [if_pos ⟨.inl rfl, hu⟩, if_pos rfl]
      rw [hev]
      clear hev
      have HU := Lib.hid hu
      clear hu
      go_enter Tryz.func27, Tryz.ntmps27
      go_wp2_with (go_at_call 47; refine (reffeed_yes _ b cs f app a d e1 e2 s N H.out.1 HU.out.1 HU.out.2 hs1 H.out.2.1 hN).mono ?_; rintro e w2 hg; have HG := Lib.hid hg; obtain ⟨v, _, rfl, _⟩ := hg)
      go_ret
      exact RDone.after HG.out H.out.2.2
    · have hev : uEv app e1 e2 0 d s = [] := by unfold uEv; rw [if_neg (fun h => hu h.2)]
      rw [hev]
      clear hev
      have HN := Lib.hid (usable_not hu)
      clear hu
      go_enter Tryz.func27, Tryz.ntmps27
      go_wp2_with (go_at_call 47; refine (reffeed_no _ b cs f app a d e1 e2 s H.out.1 HN.out).mono ?_; rintro e w2 ⟨rfl, rfl⟩)
      go_ret
      exact RDone.nil H.out.1 H.out.2.2
  · by_cases k4 : k = 4
    · subst k4
      clear k0
      have he : uEnd e1 e2 4 d = (e1, e2) := rfl
      rw [he]
      clear he
      by_cases hu : usableB d e1 e2 = true ∧ s.size ≠ 0
      · have hev : uEv app e1 e2 4 d s = [⟨18, d, s⟩] := by unfold uEv; rw [if_pos ⟨.inr rfl, hu⟩, if_neg (by decide)]
        rw [hev]
        clear hev
        have HU := Lib.hid hu
        clear hu
        go_enter Tryz.func27, Tryz.ntmps27
        go_wp2_with (go_at_call 51; refine (refnote_yes _ b cs f app d e1 e2 s N H.out.1 HU.out.1 HU.out.2 H.out.2.1 hN).mono ?_; rintro e w2 hg; have HG := Lib.hid hg; obtain ⟨v, _, rfl, _⟩ := hg)
        go_ret
        exact RDone.after HG.out H.out.2.2
      · have hev : uEv app e1 e2 4 d s = [] := by unfold uEv; rw [if_neg (fun h => hu h.2)]
        rw [hev]
        clear hev
        have HN := Lib.hid (usable_not hu)
        clear hu
        go_enter Tryz.func27, Tryz.ntmps27
        go_wp2_with (go_at_call 51; refine (refnote_no _ b cs f app d e1 e2 s H.out.1 HN.out).mono ?_; rintro e w2 ⟨rfl, rfl⟩)
        go_ret
        exact RDone.nil H.out.1 H.out.2.2
    · have hev : uEv app e1 e2 k d s = [] := by unfold uEv; rw [if_neg (fun h => h.1.elim k0 k4)]
      rw [hev]
      clear hev
      by_cases k2 : k = 2
      · subst k2
        have he : uEnd e1 e2 2 d = endE d e1 e2 := rfl
        rw [he]
        clear he k0 k4
        go_enter Tryz.func27, Tryz.ntmps27
        go_wp2_with (go_at_call 49; refine (reffinish _ b cs f app a d e1 e2 H.out.1).mono ?_; rintro e w2 hg; have HG := Lib.hid hg; obtain ⟨v, _, rfl, _⟩ := hg)
        go_ret
        exact RDone.after HG.out H.out.2.2
      · have he : uEnd e1 e2 k d = (e1, e2) := by unfold uEnd; rw [if_neg k2]
        rw [he]
        clear he
        by_cases k1 : k = 1
        · subst k1
          clear k0 k4 k2
          go_enter Tryz.func27, Tryz.ntmps27
          go_wp2_with (go_at_call 48; refine (refgap _ b cs f app d n e1 e2 H.out.1).mono ?_; rintro e w2 ⟨rfl, rfl⟩)
          go_ret
          exact RDone.nil H.out.1 H.out.2.2
        · by_cases k3 : k = 3
          · subst k3
            clear k0 k4 k2 k1
            go_enter Tryz.func27, Tryz.ntmps27
            go_wp2_with (go_at_call 50; refine (refoff _ b cs f app n e1 e2 (d == 1) H.out.1).mono ?_; rintro e w2 ⟨rfl, cs2, h1, h2⟩; have HG := Lib.hid (And.intro h1 h2); clear h1 h2)
            go_ret
            exact RDone.nil HG.out.1 (H.out.2.2.trans HG.out.2 (fun _ h _ => h))
          · have q0 : (k == 0) = false := by simpa using k0
            have q1 : (k == 1) = false := by simpa using k1
            have q2 : (k == 2) = false := by simpa using k2
            have q3 : (k == 3) = false := by simpa using k3
            have q4 : (k == 4) = false := by simpa using k4
            clear k0 k1 k2 k3 k4
            go_enter Tryz.func27, Tryz.ntmps27
            go_wp2_with fail
            go_ret
            exact RDone.nil H.out.1 H.out.2.2
end Go.Proofs.Sess
/- A new session of the reference: its parts. -/
namespace Go.Proofs.Sess
open Go Go.RowKit

def NewAt (w : World) (o : Obj) (e : Ending) (w' : World) : Prop := e = .returned (.pointer (some ⟨w.heap.size, 0, none⟩)) ∧ w' = w.alloc o

theorem refnew45 (w : World) (k d : Int) : Calls Tryz.prog 45 #[.int .i64 k, .int .i64 d] w (NewAt w (.cells #[.int .i64 k, .int .i64 d, .int .i64 0, .int .i64 0, .string ⟨#[]⟩] 155)) := by
  go_enter Tryz.func45, Tryz.ntmps45
  go_wp2_with fail
  go_ret
  exact ⟨rfl, rfl⟩
theorem refnew88 (w : World) (d : Int) : Calls Tryz.prog 88 #[.int .i64 d] w (NewAt w (.cells #[.int .i64 d, .slice none 0 0, .string ⟨#[]⟩, .slice none 0 0, .bool false] 213)) := by
  go_enter Tryz.func88, Tryz.ntmps88
  go_wp2_with fail
  go_ret
  exact ⟨rfl, rfl⟩
theorem refnew90 (w : World) : Calls Tryz.prog 90 #[] w (NewAt w (.cells #[.string ⟨#[]⟩, .string ⟨#[]⟩, .bool false, .bool false] 222)) := by
  go_enter Tryz.func90, Tryz.ntmps90
  go_wp2_with fail
  go_ret
  exact ⟨rfl, rfl⟩
theorem refnew91 (w : World) : Calls Tryz.prog 91 #[] w (NewAt w (.cells #[.string ⟨#[]⟩, .bool false] 224)) := by
  go_enter Tryz.func91, Tryz.ntmps91
  go_wp2_with fail
  go_ret
  exact ⟨rfl, rfl⟩
theorem refnew113 (w : World) : Calls Tryz.prog 113 #[.int .i64 512] w fun e w' => e = .returned (.pointer (some ⟨w.heap.size, 0, none⟩)) ∧ ∃ o, w' = w.alloc o := by
  go_enter Tryz.func113, Tryz.ntmps113
  go_wp2_with fail
  go_ret
  exact ⟨rfl, _, rfl⟩
theorem refnew68 (w : World) : Calls Tryz.prog 68 #[] w fun e w' => ∃ q1 q2, e = .returned (.agg #[.pointer (some ⟨q1, 0, none⟩), .pointer (some ⟨q2, 0, none⟩)]) ∧ Keeps [] w w' := by
  go_enter Tryz.func68, Tryz.ntmps68
  go_wp2_with (go_at_call 91; refine (refnew91 _).mono ?_; rintro e w' ⟨rfl, rfl⟩)
  refine bodyPost_ret (v := .agg #[.pointer (some ⟨w.heap.size + 1, 0, none⟩), .pointer (some ⟨w.heap.size + 2, 0, none⟩)]) ?_ rfl ?_
  · simp only [results, show Tryz.f68.results = #[ResultVar.cell 0 105] from rfl]
    go_simp
  · exact ⟨_, _, rfl, by repeat (first | exact Keeps.refl _ _ | refine Keeps.alloc ?_ _)⟩
theorem refnew67 (w : World) : Calls Tryz.prog 67 #[] w fun e w' => ∃ q1 q2, e = .returned (.agg #[.pointer (some ⟨q1, 0, none⟩), .pointer (some ⟨q2, 0, none⟩), .bool false, .string ⟨#[]⟩, .string ⟨#[]⟩]) ∧ Keeps [] w w' := by
  go_enter Tryz.func67, Tryz.ntmps67
  go_wp2_with (go_at_call 90; refine (refnew90 _).mono ?_; rintro e w' ⟨rfl, rfl⟩)
  refine bodyPost_ret (v := .agg #[.pointer (some ⟨w.heap.size + 1, 0, none⟩), .pointer (some ⟨w.heap.size + 2, 0, none⟩), .bool false, .string ⟨#[]⟩, .string ⟨#[]⟩]) ?_ rfl ?_
  · simp only [results, show Tryz.f67.results = #[ResultVar.cell 0 101] from rfl]
    go_simp
  · exact ⟨_, _, rfl, by repeat (first | exact Keeps.refl _ _ | refine Keeps.alloc ?_ _)⟩
theorem refnew65 (w : World) : Calls Tryz.prog 65 #[] w fun e w' => ∃ q1 q2, e = .returned (.agg #[.pointer (some ⟨q1, 0, none⟩), .pointer (some ⟨q2, 0, none⟩), .pointer none, .pointer none, .pointer none, .pointer none, .string ⟨#[]⟩, .string ⟨#[]⟩, .slice none 0 0]) ∧ Keeps [] w w' := by
  go_enter Tryz.func65, Tryz.ntmps65
  go_wp2_with (go_at_call 88; refine (refnew88 _ _).mono ?_; rintro e w' ⟨rfl, rfl⟩)
  refine bodyPost_ret (v := .agg #[.pointer (some ⟨w.heap.size + 1, 0, none⟩), .pointer (some ⟨w.heap.size + 2, 0, none⟩), .pointer none, .pointer none, .pointer none, .pointer none, .string ⟨#[]⟩, .string ⟨#[]⟩, .slice none 0 0]) ?_ rfl ?_
  · simp only [results, show Tryz.f65.results = #[ResultVar.cell 0 92] from rfl]
    go_simp
  · exact ⟨_, _, rfl, by repeat (first | exact Keeps.refl _ _ | refine Keeps.alloc ?_ _)⟩
end Go.Proofs.Sess
namespace Go.Proofs.Sess
open Go Go.RowKit

set_option maxRecDepth 100000 in
set_option maxHeartbeats 1600000 in
theorem refnew89 (w : World) : Calls Tryz.prog 89 #[] w fun e w' => e = .returned (.pointer (some ⟨w.heap.size, 0, none⟩)) ∧ Keeps [] w w' := by
  go_enter Tryz.func89, Tryz.ntmps89
  go_upto_region 2 with fail
  refine wp_region_seq (fun _ => True)
    [(0, 0), (2, 0), (3, 0), (1, 3), (4, 0), (5, 3)]
    [] (by kernel_rfl) (by kernel_rfl) (fun d _ _ _ _ h => by cases d <;> exact h) ?_
  simp only [picks, List.getD_cons_succ, List.getD_cons_zero]
  (refine seq_pure (v := ?_) (by rfl) ?_ ?_; rotate_left; focus (intro wq; first | (go_simp; done) | (go_simp; with_reducible rfl))); (try simp only [Act.put, List.setIfInBounds_toArray, List.set_cons_zero, List.set_cons_succ])
  (refine seq_pure (v := ?_) (by rfl) ?_ ?_; rotate_left; focus (intro wq; first | (go_simp; done) | (go_simp; with_reducible rfl))); (try simp only [Act.put, List.setIfInBounds_toArray, List.set_cons_zero, List.set_cons_succ])
  (refine seq_pure (v := ?_) (by rfl) ?_ ?_; rotate_left; focus (intro wq; first | (go_simp; done) | (go_simp; with_reducible rfl))); (try simp only [Act.put, List.setIfInBounds_toArray, List.set_cons_zero, List.set_cons_succ])
  refine seq_do (fun K hK => ?_)
  go_simp
  refine (refnew113 _).mono ?_
  rintro e w1 ⟨rfl, o1, rfl⟩
  refine hK.out _ _ ?_; clear hK; clear K
  (try simp only [Act.put, List.setIfInBounds_toArray, List.set_cons_zero, List.set_cons_succ])
  (refine seq_pure (v := ?_) (by rfl) ?_ ?_; rotate_left; focus (intro wq; first | (go_simp; done) | (go_simp; with_reducible rfl))); (try simp only [Act.put, List.setIfInBounds_toArray, List.set_cons_zero, List.set_cons_succ])
  refine seq_do (fun K hK => ?_)
  go_simp
  refine hK.out _ _ ?_; clear hK; clear K
  (try simp only [Act.put, List.setIfInBounds_toArray, List.set_cons_zero, List.set_cons_succ])
  refine seq_nil ?_
  go_upto_region 3 with fail
  refine wp_region_seq (fun _ => True)
    [(0, 0), (2, 0), (3, 0), (1, 3), (4, 0), (5, 3)]
    [] (by kernel_rfl) (by kernel_rfl) (fun d _ _ _ _ h => by cases d <;> exact h) ?_
  simp only [picks, List.getD_cons_succ, List.getD_cons_zero]
  (refine seq_pure (v := ?_) (by rfl) ?_ ?_; rotate_left; focus (intro wq; first | (go_simp; done) | (go_simp; with_reducible rfl))); (try simp only [Act.put, List.setIfInBounds_toArray, List.set_cons_zero, List.set_cons_succ])
  (refine seq_pure (v := ?_) (by rfl) ?_ ?_; rotate_left; focus (intro wq; first | (go_simp; done) | (go_simp; with_reducible rfl))); (try simp only [Act.put, List.setIfInBounds_toArray, List.set_cons_zero, List.set_cons_succ])
  (refine seq_pure (v := ?_) (by rfl) ?_ ?_; rotate_left; focus (intro wq; first | (go_simp; done) | (go_simp; with_reducible rfl))); (try simp only [Act.put, List.setIfInBounds_toArray, List.set_cons_zero, List.set_cons_succ])
  refine seq_do (fun K hK => ?_)
  go_simp
  refine (refnew113 _).mono ?_
  rintro e w1 ⟨rfl, o2, rfl⟩
  refine hK.out _ _ ?_; clear hK; clear K
  (try simp only [Act.put, List.setIfInBounds_toArray, List.set_cons_zero, List.set_cons_succ])
  (refine seq_pure (v := ?_) (by rfl) ?_ ?_; rotate_left; focus (intro wq; first | (go_simp; done) | (go_simp; with_reducible rfl))); (try simp only [Act.put, List.setIfInBounds_toArray, List.set_cons_zero, List.set_cons_succ])
  refine seq_do (fun K hK => ?_)
  go_simp
  refine hK.out _ _ ?_; clear hK; clear K
  (try simp only [Act.put, List.setIfInBounds_toArray, List.set_cons_zero, List.set_cons_succ])
  refine seq_nil ?_
  go_wp2_with fail
  go_ret
  refine ⟨rfl, ?_⟩
  exact (((((Keeps.refl _ _).alloc _).alloc _).alloc _).drew).drew

theorem store3 {w : World} {b : Nat} {c0 c1 c2 : Value} {t : TypeId} (h : w.heap[b]? = some (.cells #[c0, c1, c2] t (0, 0))) (v0 v1 v2 : Value) :
    w.cell? ⟨b, 0, none⟩ = some c0 ∧ w.frozen? ⟨b, 0, none⟩ = false ∧
    (w.setCell ⟨b, 0, none⟩ v0).cell? ⟨b, 1, none⟩ = some c1 ∧ (w.setCell ⟨b, 0, none⟩ v0).frozen? ⟨b, 1, none⟩ = false ∧
    ((w.setCell ⟨b, 0, none⟩ v0).setCell ⟨b, 1, none⟩ v1).cell? ⟨b, 2, none⟩ = some c2 ∧ ((w.setCell ⟨b, 0, none⟩ v0).setCell ⟨b, 1, none⟩ v1).frozen? ⟨b, 2, none⟩ = false ∧
    (((w.setCell ⟨b, 0, none⟩ v0).setCell ⟨b, 1, none⟩ v1).setCell ⟨b, 2, none⟩ v2).heap[b]? = some (.cells #[v0, v1, v2] t (0, 0)) := by
  have h1 : (w.setCell ⟨b, 0, none⟩ v0).heap[b]? = some (.cells #[v0, c1, c2] t (0, 0)) := heap_setCell_self h _
  have h2 : ((w.setCell ⟨b, 0, none⟩ v0).setCell ⟨b, 1, none⟩ v1).heap[b]? = some (.cells #[v0, v1, c2] t (0, 0)) := heap_setCell_self h1 _
  have h3 : (((w.setCell ⟨b, 0, none⟩ v0).setCell ⟨b, 1, none⟩ v1).setCell ⟨b, 2, none⟩ v2).heap[b]? = some (.cells #[v0, v1, v2] t (0, 0)) := heap_setCell_self h2 _
  exact ⟨cell_of_heap h rfl, free_of_heap h, cell_of_heap h1 rfl, free_of_heap h1, cell_of_heap h2 rfl, free_of_heap h2, h3⟩

set_option maxRecDepth 100000 in
set_option maxHeartbeats 1600000 in
theorem refnew66 (w : World) : Calls Tryz.prog 66 #[] w fun e w' => ∃ q, e = .returned (.agg #[.pointer (some ⟨q, 0, none⟩), .pointer none, .slice none 0 0]) ∧ Keeps [] w w' := by
  go_enter Tryz.func66, Tryz.ntmps66
  go_wp2_with fail
  refine (refnew89 _).mono ?_
  rintro e w1 ⟨rfl, hk⟩
  have hb0 : w1.heap[w.heap.size]? = some (.cells #[.pointer none, .pointer none, .slice none 0 0] 97 (0, 0)) := hk.heap heap_alloc_self (by simp)
  have hk1 : Keeps [] w w1 := ((Keeps.refl [] w).alloc _).trans hk (by simp)
  simp only [World.size_alloc] at *
  generalize hq : w.heap.size + 1 = q at *
  obtain ⟨z0, y0, z1, y1, z2, y2, hz⟩ := store3 hb0 (.pointer (some ⟨q, 0, none⟩)) (.pointer none) (.slice none 0 0)
  have g0 := cell_of_heap (o := 0) hz rfl
  have g1 := cell_of_heap (o := 1) hz rfl
  have g2 := cell_of_heap (o := 2) hz rfl
  have HK := Lib.hid hk1
  generalize hbb : w.heap.size = bb at *
  clear hk hk1 hb0 hz
  go_wp2_with fail
  refine bodyPost_ret (v := .agg #[.pointer (some ⟨q, 0, none⟩), .pointer none, .slice none 0 0]) ?_ rfl ⟨q, rfl, ((HK.out.setCell (fun h => absurd h (by show ¬ bb < w.heap.size; omega)) _).setCell (fun h => absurd h (by show ¬ bb < w.heap.size; omega)) _).setCell (fun h => absurd h (by show ¬ bb < w.heap.size; omega)) _⟩
  simp only [results, show Tryz.f66.results = #[ResultVar.cell 0 97] from rfl]
  go_simp
end Go.Proofs.Sess
namespace Go.Proofs.Sess
open Go Go.RowKit

theorem RefAt.ex {w : World} {b : Nat} {cs : Array Value} {f : Int → Int → Int} {app : Int} {e1 e2 : Bool} (h : RefAt w b cs f app e1 e2) (o : Nat) (ho : o < 75) : ∃ v, w.cell? ⟨b, o, none⟩ = some v :=
  ⟨_, h.cell (Array.getElem?_eq_getElem (by rw [h.size]; exact ho))⟩
theorem RefAt.any {w : World} {b : Nat} {cs : Array Value} {f : Int → Int → Int} {app : Int} {e1 e2 : Bool} (h : RefAt w b cs f app e1 e2) {o : Nat} {v : Value} (ho : (43 ≤ o ∧ o ≤ 44) ∨ (56 ≤ o ∧ o ≠ 72)) :
    RefAt (w.setCell ⟨b, o, none⟩ v) b (cs.setIfInBounds o v) f app e1 e2 := by
  have hsz := h.size
  have g : ∀ i, i ≠ o → (cs.setIfInBounds o v)[i]? = cs[i]? := fun i hi => Array.getElem?_setIfInBounds_ne (Ne.symm hi)
  exact ⟨heap_setCell_self h.heap _, by simp [hsz], (g _ (by omega)).trans h.p, (g _ (by omega)).trans h.a, fun k d hk hd => (g _ (by omega)).trans (h.cnt k d hk hd), (g _ (by omega)).trans h.e1, (g _ (by omega)).trans h.e2, (g _ (by omega)).trans h.s1, (g _ (by omega)).trans h.s2, by rw [g _ (by omega)]; exact h.last, by rw [g _ (by omega)]; exact h.n1, by rw [g _ (by omega)]; exact h.n2, by rw [g _ (by omega)]; exact h.n3, (g _ (by omega)).trans h.tw⟩
theorem RefAt.s72 {w : World} {b : Nat} {cs : Array Value} {f : Int → Int → Int} {app : Int} {e1 e2 : Bool} (h : RefAt w b cs f app e1 e2) :
    RefAt (w.setCell ⟨b, 72, none⟩ (.string ⟨#[]⟩)) b (cs.setIfInBounds 72 (.string ⟨#[]⟩)) f app e1 e2 := by
  have hsz := h.size
  have g : ∀ i, i ≠ 72 → (cs.setIfInBounds 72 (.string ⟨#[]⟩))[i]? = cs[i]? := fun i hi => Array.getElem?_setIfInBounds_ne (Ne.symm hi)
  exact ⟨heap_setCell_self h.heap _, by simp [hsz], (g _ (by omega)).trans h.p, (g _ (by omega)).trans h.a, fun k d hk hd => (g _ (by omega)).trans (h.cnt k d hk hd), (g _ (by omega)).trans h.e1, (g _ (by omega)).trans h.e2, (g _ (by omega)).trans h.s1, (g _ (by omega)).trans h.s2, by rw [g _ (by omega)]; exact h.last, by rw [g _ (by omega)]; exact h.n1, by rw [g _ (by omega)]; exact h.n2, by rw [g _ (by omega)]; exact h.n3, by rw [Array.getElem?_setIfInBounds_self_of_lt (by omega)]⟩

set_option maxRecDepth 100000 in
set_option maxHeartbeats 4000000 in
theorem refstart (w : World) (b : Nat) (cs : Array Value) (f : Int → Int → Int) (app : Int) (e1 e2 : Bool) (h : RefAt w b cs f app e1 e2) :
    Calls Tryz.prog 46 #[.pointer (some ⟨b, 0, none⟩)] w fun e w' => e = .returned (.tuple #[]) ∧ ∃ cs', RefAt w' b cs' f app e1 e2 ∧ Keeps [b] w w' := by
  have H0 := Lib.hid (And.intro h (Keeps.refl [b] w))
  clear h
  go_enter Tryz.func46, Tryz.ntmps46
  go_wp2_with fail
  refine (refnew65 _).mono ?_
  rintro e w1 ⟨q1, q2, rfl, hk⟩
  have hr := H0.out.1.keep (S := []) hk (by simp)
  have hkk : Keeps [b] w w1 := H0.out.2.trans (hk.mono (by simp)) (fun _ h _ => h)
  clear hk
  obtain ⟨x56, c56⟩ := hr.ex 56 (by omega)
  have f56 := hr.free 56
  have r57 := hr.any (o := 56) (v := .pointer (some ⟨q1, 0, none⟩)) (by omega)
  obtain ⟨x57, c57⟩ := r57.ex 57 (by omega)
  have f57 := r57.free 57
  have r58 := r57.any (o := 57) (v := .pointer (some ⟨q2, 0, none⟩)) (by omega)
  obtain ⟨x58, c58⟩ := r58.ex 58 (by omega)
  have f58 := r58.free 58
  have r59 := r58.any (o := 58) (v := .pointer none) (by omega)
  obtain ⟨x59, c59⟩ := r59.ex 59 (by omega)
  have f59 := r59.free 59
  have r60 := r59.any (o := 59) (v := .pointer none) (by omega)
  obtain ⟨x60, c60⟩ := r60.ex 60 (by omega)
  have f60 := r60.free 60
  have r61 := r60.any (o := 60) (v := .pointer none) (by omega)
  obtain ⟨x61, c61⟩ := r61.ex 61 (by omega)
  have f61 := r61.free 61
  have r62 := r61.any (o := 61) (v := .pointer none) (by omega)
  obtain ⟨x62, c62⟩ := r62.ex 62 (by omega)
  have f62 := r62.free 62
  have r63 := r62.any (o := 62) (v := .string ⟨#[]⟩) (by omega)
  obtain ⟨x63, c63⟩ := r63.ex 63 (by omega)
  have f63 := r63.free 63
  have r64 := r63.any (o := 63) (v := .string ⟨#[]⟩) (by omega)
  obtain ⟨x64, c64⟩ := r64.ex 64 (by omega)
  have f64 := r64.free 64
  have r65 := r64.any (o := 64) (v := .slice none 0 0) (by omega)
  have kS : Keeps [b] w1 (((((((((w1.setCell ⟨b, 56, none⟩ (.pointer (some ⟨q1, 0, none⟩))).setCell ⟨b, 57, none⟩ (.pointer (some ⟨q2, 0, none⟩))).setCell ⟨b, 58, none⟩ (.pointer none)).setCell ⟨b, 59, none⟩ (.pointer none)).setCell ⟨b, 60, none⟩ (.pointer none)).setCell ⟨b, 61, none⟩ (.pointer none)).setCell ⟨b, 62, none⟩ (.string ⟨#[]⟩)).setCell ⟨b, 63, none⟩ (.string ⟨#[]⟩)).setCell ⟨b, 64, none⟩ (.slice none 0 0)) := (((((((((Keeps.refl _ _).setCell (by simp) _).setCell (by simp) _).setCell (by simp) _).setCell (by simp) _).setCell (by simp) _).setCell (by simp) _).setCell (by simp) _).setCell (by simp) _).setCell (by simp) _
  have HS0 := Lib.hid (And.intro r65 kS)
  clear kS r57 r58 r59 r60 r61 r62 r63 r64 r65
  have HK0 := Lib.hid (And.intro HS0.out.1 (hkk.trans HS0.out.2 (fun _ h _ => h)))
  clear HS0 hkk hr
  go_upto_region 1 with fail
  clear c56 f56 c57 f57 c58 f58 c59 f59 c60 f60 c61 f61 c62 f62 c63 f63 c64 f64
  revert HK0
  generalize (((((((((w1.setCell ⟨b, 56, none⟩ (.pointer (some ⟨q1, 0, none⟩))).setCell ⟨b, 57, none⟩ (.pointer (some ⟨q2, 0, none⟩))).setCell ⟨b, 58, none⟩ (.pointer none)).setCell ⟨b, 59, none⟩ (.pointer none)).setCell ⟨b, 60, none⟩ (.pointer none)).setCell ⟨b, 61, none⟩ (.pointer none)).setCell ⟨b, 62, none⟩ (.string ⟨#[]⟩)).setCell ⟨b, 63, none⟩ (.string ⟨#[]⟩)).setCell ⟨b, 64, none⟩ (.slice none 0 0)) = V0
  intro HK0
  go_wp2_with fail
  refine (refnew66 _).mono ?_
  rintro e w2 ⟨q1, rfl, hk⟩
  have hr := HK0.out.1.keep (S := []) hk (by simp)
  have hkk : Keeps [b] w w2 := HK0.out.2.trans (hk.mono (by simp)) (fun _ h _ => h)
  clear hk
  obtain ⟨x65, c65⟩ := hr.ex 65 (by omega)
  have f65 := hr.free 65
  have r66 := hr.any (o := 65) (v := .pointer (some ⟨q1, 0, none⟩)) (by omega)
  obtain ⟨x66, c66⟩ := r66.ex 66 (by omega)
  have f66 := r66.free 66
  have r67 := r66.any (o := 66) (v := .pointer none) (by omega)
  obtain ⟨x67, c67⟩ := r67.ex 67 (by omega)
  have f67 := r67.free 67
  have r68 := r67.any (o := 67) (v := .slice none 0 0) (by omega)
  have kS : Keeps [b] w2 (((w2.setCell ⟨b, 65, none⟩ (.pointer (some ⟨q1, 0, none⟩))).setCell ⟨b, 66, none⟩ (.pointer none)).setCell ⟨b, 67, none⟩ (.slice none 0 0)) := (((Keeps.refl _ _).setCell (by simp) _).setCell (by simp) _).setCell (by simp) _
  have HS1 := Lib.hid (And.intro r68 kS)
  clear kS r66 r67 r68
  have HK1 := Lib.hid (And.intro HS1.out.1 (hkk.trans HS1.out.2 (fun _ h _ => h)))
  clear HS1 hkk hr
  go_upto_region 2 with fail
  clear c65 f65 c66 f66 c67 f67
  revert HK1
  generalize (((w2.setCell ⟨b, 65, none⟩ (.pointer (some ⟨q1, 0, none⟩))).setCell ⟨b, 66, none⟩ (.pointer none)).setCell ⟨b, 67, none⟩ (.slice none 0 0)) = V1
  intro HK1
  go_wp2_with fail
  refine (refnew67 _).mono ?_
  rintro e w3 ⟨q1, q2, rfl, hk⟩
  have hr := HK1.out.1.keep (S := []) hk (by simp)
  have hkk : Keeps [b] w w3 := HK1.out.2.trans (hk.mono (by simp)) (fun _ h _ => h)
  clear hk
  obtain ⟨x68, c68⟩ := hr.ex 68 (by omega)
  have f68 := hr.free 68
  have r69 := hr.any (o := 68) (v := .pointer (some ⟨q1, 0, none⟩)) (by omega)
  obtain ⟨x69, c69⟩ := r69.ex 69 (by omega)
  have f69 := r69.free 69
  have r70 := r69.any (o := 69) (v := .pointer (some ⟨q2, 0, none⟩)) (by omega)
  obtain ⟨x70, c70⟩ := r70.ex 70 (by omega)
  have f70 := r70.free 70
  have r71 := r70.any (o := 70) (v := .bool false) (by omega)
  obtain ⟨x71, c71⟩ := r71.ex 71 (by omega)
  have f71 := r71.free 71
  have r72 := r71.any (o := 71) (v := .string ⟨#[]⟩) (by omega)
  obtain ⟨x72, c72⟩ := r72.ex 72 (by omega)
  have f72 := r72.free 72
  have r73 := r72.s72
  have kS : Keeps [b] w3 (((((w3.setCell ⟨b, 68, none⟩ (.pointer (some ⟨q1, 0, none⟩))).setCell ⟨b, 69, none⟩ (.pointer (some ⟨q2, 0, none⟩))).setCell ⟨b, 70, none⟩ (.bool false)).setCell ⟨b, 71, none⟩ (.string ⟨#[]⟩)).setCell ⟨b, 72, none⟩ (.string ⟨#[]⟩)) := (((((Keeps.refl _ _).setCell (by simp) _).setCell (by simp) _).setCell (by simp) _).setCell (by simp) _).setCell (by simp) _
  have HS2 := Lib.hid (And.intro r73 kS)
  clear kS r69 r70 r71 r72 r73
  have HK2 := Lib.hid (And.intro HS2.out.1 (hkk.trans HS2.out.2 (fun _ h _ => h)))
  clear HS2 hkk hr
  go_upto_region 3 with fail
  clear c68 f68 c69 f69 c70 f70 c71 f71 c72 f72
  revert HK2
  generalize (((((w3.setCell ⟨b, 68, none⟩ (.pointer (some ⟨q1, 0, none⟩))).setCell ⟨b, 69, none⟩ (.pointer (some ⟨q2, 0, none⟩))).setCell ⟨b, 70, none⟩ (.bool false)).setCell ⟨b, 71, none⟩ (.string ⟨#[]⟩)).setCell ⟨b, 72, none⟩ (.string ⟨#[]⟩)) = V2
  intro HK2
  go_wp2_with fail
  refine (refnew68 _).mono ?_
  rintro e w4 ⟨q1, q2, rfl, hk⟩
  have hr := HK2.out.1.keep (S := []) hk (by simp)
  have hkk : Keeps [b] w w4 := HK2.out.2.trans (hk.mono (by simp)) (fun _ h _ => h)
  clear hk
  obtain ⟨x73, c73⟩ := hr.ex 73 (by omega)
  have f73 := hr.free 73
  have r74 := hr.any (o := 73) (v := .pointer (some ⟨q1, 0, none⟩)) (by omega)
  obtain ⟨x74, c74⟩ := r74.ex 74 (by omega)
  have f74 := r74.free 74
  have r75 := r74.any (o := 74) (v := .pointer (some ⟨q2, 0, none⟩)) (by omega)
  have kS : Keeps [b] w4 ((w4.setCell ⟨b, 73, none⟩ (.pointer (some ⟨q1, 0, none⟩))).setCell ⟨b, 74, none⟩ (.pointer (some ⟨q2, 0, none⟩))) := ((Keeps.refl _ _).setCell (by simp) _).setCell (by simp) _
  have HS3 := Lib.hid (And.intro r75 kS)
  clear kS r74 r75
  have HK3 := Lib.hid (And.intro HS3.out.1 (hkk.trans HS3.out.2 (fun _ h _ => h)))
  clear HS3 hkk hr
  go_wp2_with fail
  go_end0
  exact ⟨rfl, _, HK3.out.1, HK3.out.2⟩
end Go.Proofs.Sess
namespace Go.Proofs.Sess
open Go Go.RowKit

/-- The application of a session of datagrams. -/
def udpApp (a : Int) : Int := if a = 4 then 4 else 0
theorem z107_cnt : (Tryz.zeroCells107.toList.drop 5).take 38 = List.replicate 38 (.int .i64 0) := by kernel_rfl
theorem z107_size : Tryz.zeroCells107.size = 75 := by kernel_rfl
theorem z107_at (i : Nat) (h : 5 ≤ i) (h2 : i < 43) : Tryz.zeroCells107[i]? = some (.int .i64 0) := by
  have h3 : ((Tryz.zeroCells107.toList.drop 5).take 38)[i - 5]? = some (.int .i64 0) := by rw [z107_cnt, List.getElem?_replicate]; rw [if_pos (by omega)]
  rw [List.getElem?_take_of_lt (by omega), List.getElem?_drop, show 5 + (i - 5) = i by omega] at h3
  simpa using h3
theorem ref0 {W : World} {b : Nat} {x b1 b2 : Int} {ta : Option Addr} {tn tc : Nat} {fx : Bool} (h : W.heap[b]? = some (.cells ((((((Tryz.zeroCells107.setIfInBounds 0 (.int .i64 17)).setIfInBounds 1 (.int .i64 x)).setIfInBounds 2 (.slice ta tn tc)).setIfInBounds 3 (.int .i64 b1)).setIfInBounds 4 (.int .i64 b2)).setIfInBounds 51 (.bool fx)) 107 (0, 0))) :
    RefAt W b ((((((Tryz.zeroCells107.setIfInBounds 0 (.int .i64 17)).setIfInBounds 1 (.int .i64 x)).setIfInBounds 2 (.slice ta tn tc)).setIfInBounds 3 (.int .i64 b1)).setIfInBounds 4 (.int .i64 b2)).setIfInBounds 51 (.bool fx)) (fun _ _ => 0) x false false := by
  have hsz := z107_size
  have g : ∀ i, 5 ≤ i → i ≠ 51 → ((((((Tryz.zeroCells107.setIfInBounds 0 (.int .i64 17)).setIfInBounds 1 (.int .i64 x)).setIfInBounds 2 (.slice ta tn tc)).setIfInBounds 3 (.int .i64 b1)).setIfInBounds 4 (.int .i64 b2)).setIfInBounds 51 (.bool fx))[i]? = Tryz.zeroCells107[i]? := fun i h1 h2 => by
    rw [Array.getElem?_setIfInBounds_ne (by omega), Array.getElem?_setIfInBounds_ne (by omega), Array.getElem?_setIfInBounds_ne (by omega), Array.getElem?_setIfInBounds_ne (by omega), Array.getElem?_setIfInBounds_ne (by omega), Array.getElem?_setIfInBounds_ne (by omega)]
  refine ⟨h, by simp [hsz], ?_, ?_, fun k d hk hd => ?_, (g _ (by omega) (by omega)).trans (by kernel_rfl), (g _ (by omega) (by omega)).trans (by kernel_rfl), (g _ (by omega) (by omega)).trans (by kernel_rfl), (g _ (by omega) (by omega)).trans (by kernel_rfl), ⟨0, (g _ (by omega) (by omega)).trans (by kernel_rfl)⟩, ⟨false, (g _ (by omega) (by omega)).trans (by kernel_rfl)⟩, ⟨false, (g _ (by omega) (by omega)).trans (by kernel_rfl)⟩, ⟨false, (g _ (by omega) (by omega)).trans (by kernel_rfl)⟩, (g _ (by omega) (by omega)).trans (by kernel_rfl)⟩
  · rw [Array.getElem?_setIfInBounds_ne (by omega), Array.getElem?_setIfInBounds_ne (by omega), Array.getElem?_setIfInBounds_ne (by omega), Array.getElem?_setIfInBounds_ne (by omega), Array.getElem?_setIfInBounds_ne (by omega), Array.getElem?_setIfInBounds_self_of_lt (by omega)]
  · rw [Array.getElem?_setIfInBounds_ne (by omega), Array.getElem?_setIfInBounds_ne (by omega), Array.getElem?_setIfInBounds_ne (by omega), Array.getElem?_setIfInBounds_ne (by omega), Array.getElem?_setIfInBounds_self_of_lt (by simp [hsz])]
  · rw [g _ (by omega) (by omega)]
    exact z107_at _ (by omega) (by omega)

set_option maxRecDepth 100000 in
set_option maxHeartbeats 4000000 in
theorem refnew (w : World) (a b1 b2 : Int) (ta : Option Addr) (tn tc : Nat) : Calls Tryz.prog 26 #[.int .i64 17, .int .i64 a, .slice ta tn tc, .agg #[.int .i64 b1, .int .i64 b2]] w fun e w' => ∃ b cs, e = .returned (.pointer (some ⟨b, 0, none⟩)) ∧ RefAt w' b cs (fun _ _ => 0) (udpApp a) false false ∧ w.heap.size ≤ b ∧ Keeps [] w w' := by
  by_cases ha : a = 4
  · subst ha
    go_enter Tryz.func26, Tryz.ntmps26
    go_upto_region 4 with fail
    have hk0 : Keeps [] w ((w.alloc (.cells #[.int .i64 b1, .int .i64 b2] 24)).alloc (.cells ((((((Tryz.zeroCells107.setIfInBounds 0 (.int .i64 17)).setIfInBounds 1 (.int .i64 4)).setIfInBounds 2 (.slice ta tn tc)).setIfInBounds 3 (.int .i64 b1)).setIfInBounds 4 (.int .i64 b2)).setIfInBounds 51 (.bool true)) 107)) := ((Keeps.refl _ _).alloc _).alloc _
    have hr0 : RefAt ((w.alloc (.cells #[.int .i64 b1, .int .i64 b2] 24)).alloc (.cells ((((((Tryz.zeroCells107.setIfInBounds 0 (.int .i64 17)).setIfInBounds 1 (.int .i64 4)).setIfInBounds 2 (.slice ta tn tc)).setIfInBounds 3 (.int .i64 b1)).setIfInBounds 4 (.int .i64 b2)).setIfInBounds 51 (.bool true)) 107)) (w.heap.size + 1) _ (fun _ _ => 0) 4 false false := ref0 ((heap_alloc_self (w := w.alloc (.cells #[.int .i64 b1, .int .i64 b2] 24))).trans rfl |> fun h => by simpa using h)
    have H0 := Lib.hid (And.intro hr0 hk0)
    clear hk0 hr0
    revert H0
    generalize ((w.alloc (.cells #[.int .i64 b1, .int .i64 b2] 24)).alloc (.cells ((((((Tryz.zeroCells107.setIfInBounds 0 (.int .i64 17)).setIfInBounds 1 (.int .i64 4)).setIfInBounds 2 (.slice ta tn tc)).setIfInBounds 3 (.int .i64 b1)).setIfInBounds 4 (.int .i64 b2)).setIfInBounds 51 (.bool true)) 107)) = W
    intro H0
    generalize hb : w.heap.size + 1 = b at *
    go_wp2_with fail
    refine wp_loop_rounds 3 ?_
    rw [rounds_succ]
    go_upto_region 7 with fail
    refine wp_region_seq (fun _ => True)
      [(0, 0), (1, 0), (2, 0), (3, 0), (5, 0), (6, 0), (4, 3), (7, 0), (8, 3)]
      [] (by kernel_rfl) (by kernel_rfl) (fun d _ _ _ _ h => by cases d <;> exact h) ?_
    simp only [picks, List.getD_cons_succ, List.getD_cons_zero]
    (refine seq_pure (v := ?_) (by rfl) ?_ ?_; rotate_left; focus (intro wq; first | (go_simp; done) | (go_simp; with_reducible rfl))); (try simp only [Act.put, List.setIfInBounds_toArray, List.set_cons_zero, List.set_cons_succ])
    (refine seq_pure (v := ?_) (by rfl) ?_ ?_; rotate_left; focus (intro wq; first | (go_simp; done) | (go_simp; with_reducible rfl))); (try simp only [Act.put, List.setIfInBounds_toArray, List.set_cons_zero, List.set_cons_succ])
    (refine seq_pure (v := ?_) (by rfl) ?_ ?_; rotate_left; focus (intro wq; first | (go_simp; done) | (go_simp; with_reducible rfl))); (try simp only [Act.put, List.setIfInBounds_toArray, List.set_cons_zero, List.set_cons_succ])
    (refine seq_pure (v := ?_) (by rfl) ?_ ?_; rotate_left; focus (intro wq; first | (go_simp; done) | (go_simp; with_reducible rfl))); (try simp only [Act.put, List.setIfInBounds_toArray, List.set_cons_zero, List.set_cons_succ])
    (refine seq_pure (v := ?_) (by rfl) ?_ ?_; rotate_left; focus (intro wq; first | (go_simp; done) | (go_simp; with_reducible rfl))); (try simp only [Act.put, List.setIfInBounds_toArray, List.set_cons_zero, List.set_cons_succ])
    (refine seq_pure (v := ?_) (by rfl) ?_ ?_; rotate_left; focus (intro wq; first | (go_simp; done) | (go_simp; with_reducible rfl))); (try simp only [Act.put, List.setIfInBounds_toArray, List.set_cons_zero, List.set_cons_succ])
    refine seq_do (fun K hK => ?_)
    go_simp
    refine (refnew45 _ _ _).mono ?_
    rintro e v0 ⟨rfl, hv⟩
    have hk0 : Keeps [] W v0 := by rw [hv]; exact (Keeps.refl _ _).drew.alloc _
    have hr0 := H0.out.1.keep (S := []) hk0 (by simp)
    obtain ⟨y43, c43⟩ := hr0.ex 43 (by omega)
    have f43 := hr0.free 43
    have hkk0 := H0.out.2.trans hk0 (by simp)
    have HV0 := Lib.hid (And.intro hr0 hkk0)
    clear hv hk0 hr0 hkk0
    refine hK.out _ _ ?_; clear hK; clear K
    (try simp only [Act.put, List.setIfInBounds_toArray, List.set_cons_zero, List.set_cons_succ])
    (refine seq_pure (v := ?_) (by rfl) ?_ ?_; rotate_left; focus (intro wq; first | (go_simp; done) | (go_simp; with_reducible rfl))); (try simp only [Act.put, List.setIfInBounds_toArray, List.set_cons_zero, List.set_cons_succ])
    refine seq_do (fun K hK => ?_)
    go_simp
    refine hK.out _ _ ?_; clear hK; clear K
    (try simp only [Act.put, List.setIfInBounds_toArray, List.set_cons_zero, List.set_cons_succ])
    refine seq_nil ?_
    have hs0 := HV0.out.1.any (o := 43) (v := .pointer (some ⟨W.heap.size, 0, none⟩)) (by omega)
    have hks0 : Keeps [] w (v0.setCell ⟨b, 43, none⟩ (.pointer (some ⟨W.heap.size, 0, none⟩))) := HV0.out.2.setCell (fun h => absurd h (by show ¬ b < w.heap.size; omega)) _
    have H1 := Lib.hid (And.intro hs0 hks0)
    clear hs0 hks0 c43 f43
    revert H1
    generalize v0.setCell ⟨b, 43, none⟩ (.pointer (some ⟨W.heap.size, 0, none⟩)) = W1
    intro H1
    go_wp2_with fail
    rw [rounds_succ]
    go_upto_region 7 with fail
    refine wp_region_seq (fun _ => True)
      [(0, 0), (1, 0), (2, 0), (3, 0), (5, 0), (6, 0), (4, 3), (7, 0), (8, 3)]
      [] (by kernel_rfl) (by kernel_rfl) (fun d _ _ _ _ h => by cases d <;> exact h) ?_
    simp only [picks, List.getD_cons_succ, List.getD_cons_zero]
    (refine seq_pure (v := ?_) (by rfl) ?_ ?_; rotate_left; focus (intro wq; first | (go_simp; done) | (go_simp; with_reducible rfl))); (try simp only [Act.put, List.setIfInBounds_toArray, List.set_cons_zero, List.set_cons_succ])
    (refine seq_pure (v := ?_) (by rfl) ?_ ?_; rotate_left; focus (intro wq; first | (go_simp; done) | (go_simp; with_reducible rfl))); (try simp only [Act.put, List.setIfInBounds_toArray, List.set_cons_zero, List.set_cons_succ])
    (refine seq_pure (v := ?_) (by rfl) ?_ ?_; rotate_left; focus (intro wq; first | (go_simp; done) | (go_simp; with_reducible rfl))); (try simp only [Act.put, List.setIfInBounds_toArray, List.set_cons_zero, List.set_cons_succ])
    (refine seq_pure (v := ?_) (by rfl) ?_ ?_; rotate_left; focus (intro wq; first | (go_simp; done) | (go_simp; with_reducible rfl))); (try simp only [Act.put, List.setIfInBounds_toArray, List.set_cons_zero, List.set_cons_succ])
    (refine seq_pure (v := ?_) (by rfl) ?_ ?_; rotate_left; focus (intro wq; first | (go_simp; done) | (go_simp; with_reducible rfl))); (try simp only [Act.put, List.setIfInBounds_toArray, List.set_cons_zero, List.set_cons_succ])
    (refine seq_pure (v := ?_) (by rfl) ?_ ?_; rotate_left; focus (intro wq; first | (go_simp; done) | (go_simp; with_reducible rfl))); (try simp only [Act.put, List.setIfInBounds_toArray, List.set_cons_zero, List.set_cons_succ])
    refine seq_do (fun K hK => ?_)
    go_simp
    refine (refnew45 _ _ _).mono ?_
    rintro e v1 ⟨rfl, hv⟩
    have hk1 : Keeps [] W1 v1 := by rw [hv]; exact (Keeps.refl _ _).drew.alloc _
    have hr1 := H1.out.1.keep (S := []) hk1 (by simp)
    obtain ⟨y44, c44⟩ := hr1.ex 44 (by omega)
    have f44 := hr1.free 44
    have hkk1 := H1.out.2.trans hk1 (by simp)
    have HV1 := Lib.hid (And.intro hr1 hkk1)
    clear hv hk1 hr1 hkk1
    refine hK.out _ _ ?_; clear hK; clear K
    (try simp only [Act.put, List.setIfInBounds_toArray, List.set_cons_zero, List.set_cons_succ])
    (refine seq_pure (v := ?_) (by rfl) ?_ ?_; rotate_left; focus (intro wq; first | (go_simp; done) | (go_simp; with_reducible rfl))); (try simp only [Act.put, List.setIfInBounds_toArray, List.set_cons_zero, List.set_cons_succ])
    refine seq_do (fun K hK => ?_)
    go_simp
    refine hK.out _ _ ?_; clear hK; clear K
    (try simp only [Act.put, List.setIfInBounds_toArray, List.set_cons_zero, List.set_cons_succ])
    refine seq_nil ?_
    have hs1 := HV1.out.1.any (o := 44) (v := .pointer (some ⟨W1.heap.size, 0, none⟩)) (by omega)
    have hks1 : Keeps [] w (v1.setCell ⟨b, 44, none⟩ (.pointer (some ⟨W1.heap.size, 0, none⟩))) := HV1.out.2.setCell (fun h => absurd h (by show ¬ b < w.heap.size; omega)) _
    have H2 := Lib.hid (And.intro hs1 hks1)
    clear hs1 hks1 c44 f44
    revert H2
    generalize v1.setCell ⟨b, 44, none⟩ (.pointer (some ⟨W1.heap.size, 0, none⟩)) = W2
    intro H2
    go_wp2_with fail
    rw [rounds_succ]
    go_wp2_with (go_at_call 46; refine (refstart _ _ _ _ _ _ _ H2.out.1).mono ?_; rintro e w9 ⟨rfl, cs9, h9, k9⟩; have H9 := Lib.hid (And.intro h9 k9); clear h9 k9)
    go_ret
    refine ⟨b, cs9, rfl, ?_, by omega, (H2.out.2.trans H9.out.2 (fun y hy hl => by simp at hy; omega))⟩
    exact H9.out.1
  · have hu : udpApp a = 0 := by unfold udpApp; rw [if_neg ha]
    have HU := Lib.hid hu
    have ha' : ((a : Int) != 4) = true := by simpa using ha
    clear ha hu
    by_cases h1 : a < 0
    · go_enter Tryz.func26, Tryz.ntmps26
      go_upto_region 4 with fail
      have hk0 : Keeps [] w ((w.alloc (.cells #[.int .i64 b1, .int .i64 b2] 24)).alloc (.cells ((((((Tryz.zeroCells107.setIfInBounds 0 (.int .i64 17)).setIfInBounds 1 (.int .i64 0)).setIfInBounds 2 (.slice ta tn tc)).setIfInBounds 3 (.int .i64 b1)).setIfInBounds 4 (.int .i64 b2)).setIfInBounds 51 (.bool false)) 107)) := ((Keeps.refl _ _).alloc _).alloc _
      have hr0 : RefAt ((w.alloc (.cells #[.int .i64 b1, .int .i64 b2] 24)).alloc (.cells ((((((Tryz.zeroCells107.setIfInBounds 0 (.int .i64 17)).setIfInBounds 1 (.int .i64 0)).setIfInBounds 2 (.slice ta tn tc)).setIfInBounds 3 (.int .i64 b1)).setIfInBounds 4 (.int .i64 b2)).setIfInBounds 51 (.bool false)) 107)) (w.heap.size + 1) _ (fun _ _ => 0) 0 false false := ref0 ((heap_alloc_self (w := w.alloc (.cells #[.int .i64 b1, .int .i64 b2] 24))).trans rfl |> fun h => by simpa using h)
      have H0 := Lib.hid (And.intro hr0 hk0)
      clear hk0 hr0
      revert H0
      generalize ((w.alloc (.cells #[.int .i64 b1, .int .i64 b2] 24)).alloc (.cells ((((((Tryz.zeroCells107.setIfInBounds 0 (.int .i64 17)).setIfInBounds 1 (.int .i64 0)).setIfInBounds 2 (.slice ta tn tc)).setIfInBounds 3 (.int .i64 b1)).setIfInBounds 4 (.int .i64 b2)).setIfInBounds 51 (.bool false)) 107)) = W
      intro H0
      generalize hb : w.heap.size + 1 = b at *
      go_wp2_with fail
      refine wp_loop_rounds 3 ?_
      rw [rounds_succ]
      go_upto_region 7 with fail
      refine wp_region_seq (fun _ => True)
        [(0, 0), (1, 0), (2, 0), (3, 0), (5, 0), (6, 0), (4, 3), (7, 0), (8, 3)]
        [] (by kernel_rfl) (by kernel_rfl) (fun d _ _ _ _ h => by cases d <;> exact h) ?_
      simp only [picks, List.getD_cons_succ, List.getD_cons_zero]
      (refine seq_pure (v := ?_) (by rfl) ?_ ?_; rotate_left; focus (intro wq; first | (go_simp; done) | (go_simp; with_reducible rfl))); (try simp only [Act.put, List.setIfInBounds_toArray, List.set_cons_zero, List.set_cons_succ])
      (refine seq_pure (v := ?_) (by rfl) ?_ ?_; rotate_left; focus (intro wq; first | (go_simp; done) | (go_simp; with_reducible rfl))); (try simp only [Act.put, List.setIfInBounds_toArray, List.set_cons_zero, List.set_cons_succ])
      (refine seq_pure (v := ?_) (by rfl) ?_ ?_; rotate_left; focus (intro wq; first | (go_simp; done) | (go_simp; with_reducible rfl))); (try simp only [Act.put, List.setIfInBounds_toArray, List.set_cons_zero, List.set_cons_succ])
      (refine seq_pure (v := ?_) (by rfl) ?_ ?_; rotate_left; focus (intro wq; first | (go_simp; done) | (go_simp; with_reducible rfl))); (try simp only [Act.put, List.setIfInBounds_toArray, List.set_cons_zero, List.set_cons_succ])
      (refine seq_pure (v := ?_) (by rfl) ?_ ?_; rotate_left; focus (intro wq; first | (go_simp; done) | (go_simp; with_reducible rfl))); (try simp only [Act.put, List.setIfInBounds_toArray, List.set_cons_zero, List.set_cons_succ])
      (refine seq_pure (v := ?_) (by rfl) ?_ ?_; rotate_left; focus (intro wq; first | (go_simp; done) | (go_simp; with_reducible rfl))); (try simp only [Act.put, List.setIfInBounds_toArray, List.set_cons_zero, List.set_cons_succ])
      refine seq_do (fun K hK => ?_)
      go_simp
      refine (refnew45 _ _ _).mono ?_
      rintro e v0 ⟨rfl, hv⟩
      have hk0 : Keeps [] W v0 := by rw [hv]; exact (Keeps.refl _ _).drew.alloc _
      have hr0 := H0.out.1.keep (S := []) hk0 (by simp)
      obtain ⟨y43, c43⟩ := hr0.ex 43 (by omega)
      have f43 := hr0.free 43
      have hkk0 := H0.out.2.trans hk0 (by simp)
      have HV0 := Lib.hid (And.intro hr0 hkk0)
      clear hv hk0 hr0 hkk0
      refine hK.out _ _ ?_; clear hK; clear K
      (try simp only [Act.put, List.setIfInBounds_toArray, List.set_cons_zero, List.set_cons_succ])
      (refine seq_pure (v := ?_) (by rfl) ?_ ?_; rotate_left; focus (intro wq; first | (go_simp; done) | (go_simp; with_reducible rfl))); (try simp only [Act.put, List.setIfInBounds_toArray, List.set_cons_zero, List.set_cons_succ])
      refine seq_do (fun K hK => ?_)
      go_simp
      refine hK.out _ _ ?_; clear hK; clear K
      (try simp only [Act.put, List.setIfInBounds_toArray, List.set_cons_zero, List.set_cons_succ])
      refine seq_nil ?_
      have hs0 := HV0.out.1.any (o := 43) (v := .pointer (some ⟨W.heap.size, 0, none⟩)) (by omega)
      have hks0 : Keeps [] w (v0.setCell ⟨b, 43, none⟩ (.pointer (some ⟨W.heap.size, 0, none⟩))) := HV0.out.2.setCell (fun h => absurd h (by show ¬ b < w.heap.size; omega)) _
      have H1 := Lib.hid (And.intro hs0 hks0)
      clear hs0 hks0 c43 f43
      revert H1
      generalize v0.setCell ⟨b, 43, none⟩ (.pointer (some ⟨W.heap.size, 0, none⟩)) = W1
      intro H1
      go_wp2_with fail
      rw [rounds_succ]
      go_upto_region 7 with fail
      refine wp_region_seq (fun _ => True)
        [(0, 0), (1, 0), (2, 0), (3, 0), (5, 0), (6, 0), (4, 3), (7, 0), (8, 3)]
        [] (by kernel_rfl) (by kernel_rfl) (fun d _ _ _ _ h => by cases d <;> exact h) ?_
      simp only [picks, List.getD_cons_succ, List.getD_cons_zero]
      (refine seq_pure (v := ?_) (by rfl) ?_ ?_; rotate_left; focus (intro wq; first | (go_simp; done) | (go_simp; with_reducible rfl))); (try simp only [Act.put, List.setIfInBounds_toArray, List.set_cons_zero, List.set_cons_succ])
      (refine seq_pure (v := ?_) (by rfl) ?_ ?_; rotate_left; focus (intro wq; first | (go_simp; done) | (go_simp; with_reducible rfl))); (try simp only [Act.put, List.setIfInBounds_toArray, List.set_cons_zero, List.set_cons_succ])
      (refine seq_pure (v := ?_) (by rfl) ?_ ?_; rotate_left; focus (intro wq; first | (go_simp; done) | (go_simp; with_reducible rfl))); (try simp only [Act.put, List.setIfInBounds_toArray, List.set_cons_zero, List.set_cons_succ])
      (refine seq_pure (v := ?_) (by rfl) ?_ ?_; rotate_left; focus (intro wq; first | (go_simp; done) | (go_simp; with_reducible rfl))); (try simp only [Act.put, List.setIfInBounds_toArray, List.set_cons_zero, List.set_cons_succ])
      (refine seq_pure (v := ?_) (by rfl) ?_ ?_; rotate_left; focus (intro wq; first | (go_simp; done) | (go_simp; with_reducible rfl))); (try simp only [Act.put, List.setIfInBounds_toArray, List.set_cons_zero, List.set_cons_succ])
      (refine seq_pure (v := ?_) (by rfl) ?_ ?_; rotate_left; focus (intro wq; first | (go_simp; done) | (go_simp; with_reducible rfl))); (try simp only [Act.put, List.setIfInBounds_toArray, List.set_cons_zero, List.set_cons_succ])
      refine seq_do (fun K hK => ?_)
      go_simp
      refine (refnew45 _ _ _).mono ?_
      rintro e v1 ⟨rfl, hv⟩
      have hk1 : Keeps [] W1 v1 := by rw [hv]; exact (Keeps.refl _ _).drew.alloc _
      have hr1 := H1.out.1.keep (S := []) hk1 (by simp)
      obtain ⟨y44, c44⟩ := hr1.ex 44 (by omega)
      have f44 := hr1.free 44
      have hkk1 := H1.out.2.trans hk1 (by simp)
      have HV1 := Lib.hid (And.intro hr1 hkk1)
      clear hv hk1 hr1 hkk1
      refine hK.out _ _ ?_; clear hK; clear K
      (try simp only [Act.put, List.setIfInBounds_toArray, List.set_cons_zero, List.set_cons_succ])
      (refine seq_pure (v := ?_) (by rfl) ?_ ?_; rotate_left; focus (intro wq; first | (go_simp; done) | (go_simp; with_reducible rfl))); (try simp only [Act.put, List.setIfInBounds_toArray, List.set_cons_zero, List.set_cons_succ])
      refine seq_do (fun K hK => ?_)
      go_simp
      refine hK.out _ _ ?_; clear hK; clear K
      (try simp only [Act.put, List.setIfInBounds_toArray, List.set_cons_zero, List.set_cons_succ])
      refine seq_nil ?_
      have hs1 := HV1.out.1.any (o := 44) (v := .pointer (some ⟨W1.heap.size, 0, none⟩)) (by omega)
      have hks1 : Keeps [] w (v1.setCell ⟨b, 44, none⟩ (.pointer (some ⟨W1.heap.size, 0, none⟩))) := HV1.out.2.setCell (fun h => absurd h (by show ¬ b < w.heap.size; omega)) _
      have H2 := Lib.hid (And.intro hs1 hks1)
      clear hs1 hks1 c44 f44
      revert H2
      generalize v1.setCell ⟨b, 44, none⟩ (.pointer (some ⟨W1.heap.size, 0, none⟩)) = W2
      intro H2
      go_wp2_with fail
      rw [rounds_succ]
      go_wp2_with (go_at_call 46; refine (refstart _ _ _ _ _ _ _ H2.out.1).mono ?_; rintro e w9 ⟨rfl, cs9, h9, k9⟩; have H9 := Lib.hid (And.intro h9 k9); clear h9 k9)
      go_ret
      refine ⟨b, cs9, rfl, ?_, by omega, (H2.out.2.trans H9.out.2 (fun y hy hl => by simp at hy; omega))⟩
      rw [HU.out]; exact H9.out.1
    · by_cases h2 : 4 < a
      · go_enter Tryz.func26, Tryz.ntmps26
        go_upto_region 4 with fail
        have hk0 : Keeps [] w ((w.alloc (.cells #[.int .i64 b1, .int .i64 b2] 24)).alloc (.cells ((((((Tryz.zeroCells107.setIfInBounds 0 (.int .i64 17)).setIfInBounds 1 (.int .i64 0)).setIfInBounds 2 (.slice ta tn tc)).setIfInBounds 3 (.int .i64 b1)).setIfInBounds 4 (.int .i64 b2)).setIfInBounds 51 (.bool false)) 107)) := ((Keeps.refl _ _).alloc _).alloc _
        have hr0 : RefAt ((w.alloc (.cells #[.int .i64 b1, .int .i64 b2] 24)).alloc (.cells ((((((Tryz.zeroCells107.setIfInBounds 0 (.int .i64 17)).setIfInBounds 1 (.int .i64 0)).setIfInBounds 2 (.slice ta tn tc)).setIfInBounds 3 (.int .i64 b1)).setIfInBounds 4 (.int .i64 b2)).setIfInBounds 51 (.bool false)) 107)) (w.heap.size + 1) _ (fun _ _ => 0) 0 false false := ref0 ((heap_alloc_self (w := w.alloc (.cells #[.int .i64 b1, .int .i64 b2] 24))).trans rfl |> fun h => by simpa using h)
        have H0 := Lib.hid (And.intro hr0 hk0)
        clear hk0 hr0
        revert H0
        generalize ((w.alloc (.cells #[.int .i64 b1, .int .i64 b2] 24)).alloc (.cells ((((((Tryz.zeroCells107.setIfInBounds 0 (.int .i64 17)).setIfInBounds 1 (.int .i64 0)).setIfInBounds 2 (.slice ta tn tc)).setIfInBounds 3 (.int .i64 b1)).setIfInBounds 4 (.int .i64 b2)).setIfInBounds 51 (.bool false)) 107)) = W
        intro H0
        generalize hb : w.heap.size + 1 = b at *
        go_wp2_with fail
        refine wp_loop_rounds 3 ?_
        rw [rounds_succ]
        go_upto_region 7 with fail
        refine wp_region_seq (fun _ => True)
          [(0, 0), (1, 0), (2, 0), (3, 0), (5, 0), (6, 0), (4, 3), (7, 0), (8, 3)]
          [] (by kernel_rfl) (by kernel_rfl) (fun d _ _ _ _ h => by cases d <;> exact h) ?_
        simp only [picks, List.getD_cons_succ, List.getD_cons_zero]
        (refine seq_pure (v := ?_) (by rfl) ?_ ?_; rotate_left; focus (intro wq; first | (go_simp; done) | (go_simp; with_reducible rfl))); (try simp only [Act.put, List.setIfInBounds_toArray, List.set_cons_zero, List.set_cons_succ])
        (refine seq_pure (v := ?_) (by rfl) ?_ ?_; rotate_left; focus (intro wq; first | (go_simp; done) | (go_simp; with_reducible rfl))); (try simp only [Act.put, List.setIfInBounds_toArray, List.set_cons_zero, List.set_cons_succ])
        (refine seq_pure (v := ?_) (by rfl) ?_ ?_; rotate_left; focus (intro wq; first | (go_simp; done) | (go_simp; with_reducible rfl))); (try simp only [Act.put, List.setIfInBounds_toArray, List.set_cons_zero, List.set_cons_succ])
        (refine seq_pure (v := ?_) (by rfl) ?_ ?_; rotate_left; focus (intro wq; first | (go_simp; done) | (go_simp; with_reducible rfl))); (try simp only [Act.put, List.setIfInBounds_toArray, List.set_cons_zero, List.set_cons_succ])
        (refine seq_pure (v := ?_) (by rfl) ?_ ?_; rotate_left; focus (intro wq; first | (go_simp; done) | (go_simp; with_reducible rfl))); (try simp only [Act.put, List.setIfInBounds_toArray, List.set_cons_zero, List.set_cons_succ])
        (refine seq_pure (v := ?_) (by rfl) ?_ ?_; rotate_left; focus (intro wq; first | (go_simp; done) | (go_simp; with_reducible rfl))); (try simp only [Act.put, List.setIfInBounds_toArray, List.set_cons_zero, List.set_cons_succ])
        refine seq_do (fun K hK => ?_)
        go_simp
        refine (refnew45 _ _ _).mono ?_
        rintro e v0 ⟨rfl, hv⟩
        have hk0 : Keeps [] W v0 := by rw [hv]; exact (Keeps.refl _ _).drew.alloc _
        have hr0 := H0.out.1.keep (S := []) hk0 (by simp)
        obtain ⟨y43, c43⟩ := hr0.ex 43 (by omega)
        have f43 := hr0.free 43
        have hkk0 := H0.out.2.trans hk0 (by simp)
        have HV0 := Lib.hid (And.intro hr0 hkk0)
        clear hv hk0 hr0 hkk0
        refine hK.out _ _ ?_; clear hK; clear K
        (try simp only [Act.put, List.setIfInBounds_toArray, List.set_cons_zero, List.set_cons_succ])
        (refine seq_pure (v := ?_) (by rfl) ?_ ?_; rotate_left; focus (intro wq; first | (go_simp; done) | (go_simp; with_reducible rfl))); (try simp only [Act.put, List.setIfInBounds_toArray, List.set_cons_zero, List.set_cons_succ])
        refine seq_do (fun K hK => ?_)
        go_simp
        refine hK.out _ _ ?_; clear hK; clear K
        (try simp only [Act.put, List.setIfInBounds_toArray, List.set_cons_zero, List.set_cons_succ])
        refine seq_nil ?_
        have hs0 := HV0.out.1.any (o := 43) (v := .pointer (some ⟨W.heap.size, 0, none⟩)) (by omega)
        have hks0 : Keeps [] w (v0.setCell ⟨b, 43, none⟩ (.pointer (some ⟨W.heap.size, 0, none⟩))) := HV0.out.2.setCell (fun h => absurd h (by show ¬ b < w.heap.size; omega)) _
        have H1 := Lib.hid (And.intro hs0 hks0)
        clear hs0 hks0 c43 f43
        revert H1
        generalize v0.setCell ⟨b, 43, none⟩ (.pointer (some ⟨W.heap.size, 0, none⟩)) = W1
        intro H1
        go_wp2_with fail
        rw [rounds_succ]
        go_upto_region 7 with fail
        refine wp_region_seq (fun _ => True)
          [(0, 0), (1, 0), (2, 0), (3, 0), (5, 0), (6, 0), (4, 3), (7, 0), (8, 3)]
          [] (by kernel_rfl) (by kernel_rfl) (fun d _ _ _ _ h => by cases d <;> exact h) ?_
        simp only [picks, List.getD_cons_succ, List.getD_cons_zero]
        (refine seq_pure (v := ?_) (by rfl) ?_ ?_; rotate_left; focus (intro wq; first | (go_simp; done) | (go_simp; with_reducible rfl))); (try simp only [Act.put, List.setIfInBounds_toArray, List.set_cons_zero, List.set_cons_succ])
        (refine seq_pure (v := ?_) (by rfl) ?_ ?_; rotate_left; focus (intro wq; first | (go_simp; done) | (go_simp; with_reducible rfl))); (try simp only [Act.put, List.setIfInBounds_toArray, List.set_cons_zero, List.set_cons_succ])
        (refine seq_pure (v := ?_) (by rfl) ?_ ?_; rotate_left; focus (intro wq; first | (go_simp; done) | (go_simp; with_reducible rfl))); (try simp only [Act.put, List.setIfInBounds_toArray, List.set_cons_zero, List.set_cons_succ])
        (refine seq_pure (v := ?_) (by rfl) ?_ ?_; rotate_left; focus (intro wq; first | (go_simp; done) | (go_simp; with_reducible rfl))); (try simp only [Act.put, List.setIfInBounds_toArray, List.set_cons_zero, List.set_cons_succ])
        (refine seq_pure (v := ?_) (by rfl) ?_ ?_; rotate_left; focus (intro wq; first | (go_simp; done) | (go_simp; with_reducible rfl))); (try simp only [Act.put, List.setIfInBounds_toArray, List.set_cons_zero, List.set_cons_succ])
        (refine seq_pure (v := ?_) (by rfl) ?_ ?_; rotate_left; focus (intro wq; first | (go_simp; done) | (go_simp; with_reducible rfl))); (try simp only [Act.put, List.setIfInBounds_toArray, List.set_cons_zero, List.set_cons_succ])
        refine seq_do (fun K hK => ?_)
        go_simp
        refine (refnew45 _ _ _).mono ?_
        rintro e v1 ⟨rfl, hv⟩
        have hk1 : Keeps [] W1 v1 := by rw [hv]; exact (Keeps.refl _ _).drew.alloc _
        have hr1 := H1.out.1.keep (S := []) hk1 (by simp)
        obtain ⟨y44, c44⟩ := hr1.ex 44 (by omega)
        have f44 := hr1.free 44
        have hkk1 := H1.out.2.trans hk1 (by simp)
        have HV1 := Lib.hid (And.intro hr1 hkk1)
        clear hv hk1 hr1 hkk1
        refine hK.out _ _ ?_; clear hK; clear K
        (try simp only [Act.put, List.setIfInBounds_toArray, List.set_cons_zero, List.set_cons_succ])
        (refine seq_pure (v := ?_) (by rfl) ?_ ?_; rotate_left; focus (intro wq; first | (go_simp; done) | (go_simp; with_reducible rfl))); (try simp only [Act.put, List.setIfInBounds_toArray, List.set_cons_zero, List.set_cons_succ])
        refine seq_do (fun K hK => ?_)
        go_simp
        refine hK.out _ _ ?_; clear hK; clear K
        (try simp only [Act.put, List.setIfInBounds_toArray, List.set_cons_zero, List.set_cons_succ])
        refine seq_nil ?_
        have hs1 := HV1.out.1.any (o := 44) (v := .pointer (some ⟨W1.heap.size, 0, none⟩)) (by omega)
        have hks1 : Keeps [] w (v1.setCell ⟨b, 44, none⟩ (.pointer (some ⟨W1.heap.size, 0, none⟩))) := HV1.out.2.setCell (fun h => absurd h (by show ¬ b < w.heap.size; omega)) _
        have H2 := Lib.hid (And.intro hs1 hks1)
        clear hs1 hks1 c44 f44
        revert H2
        generalize v1.setCell ⟨b, 44, none⟩ (.pointer (some ⟨W1.heap.size, 0, none⟩)) = W2
        intro H2
        go_wp2_with fail
        rw [rounds_succ]
        go_wp2_with (go_at_call 46; refine (refstart _ _ _ _ _ _ _ H2.out.1).mono ?_; rintro e w9 ⟨rfl, cs9, h9, k9⟩; have H9 := Lib.hid (And.intro h9 k9); clear h9 k9)
        go_ret
        refine ⟨b, cs9, rfl, ?_, by omega, (H2.out.2.trans H9.out.2 (fun y hy hl => by simp at hy; omega))⟩
        rw [HU.out]; exact H9.out.1
      · go_enter Tryz.func26, Tryz.ntmps26
        go_upto_region 4 with fail
        have hk0 : Keeps [] w ((w.alloc (.cells #[.int .i64 b1, .int .i64 b2] 24)).alloc (.cells ((((((Tryz.zeroCells107.setIfInBounds 0 (.int .i64 17)).setIfInBounds 1 (.int .i64 0)).setIfInBounds 2 (.slice ta tn tc)).setIfInBounds 3 (.int .i64 b1)).setIfInBounds 4 (.int .i64 b2)).setIfInBounds 51 (.bool false)) 107)) := ((Keeps.refl _ _).alloc _).alloc _
        have hr0 : RefAt ((w.alloc (.cells #[.int .i64 b1, .int .i64 b2] 24)).alloc (.cells ((((((Tryz.zeroCells107.setIfInBounds 0 (.int .i64 17)).setIfInBounds 1 (.int .i64 0)).setIfInBounds 2 (.slice ta tn tc)).setIfInBounds 3 (.int .i64 b1)).setIfInBounds 4 (.int .i64 b2)).setIfInBounds 51 (.bool false)) 107)) (w.heap.size + 1) _ (fun _ _ => 0) 0 false false := ref0 ((heap_alloc_self (w := w.alloc (.cells #[.int .i64 b1, .int .i64 b2] 24))).trans rfl |> fun h => by simpa using h)
        have H0 := Lib.hid (And.intro hr0 hk0)
        clear hk0 hr0
        revert H0
        generalize ((w.alloc (.cells #[.int .i64 b1, .int .i64 b2] 24)).alloc (.cells ((((((Tryz.zeroCells107.setIfInBounds 0 (.int .i64 17)).setIfInBounds 1 (.int .i64 0)).setIfInBounds 2 (.slice ta tn tc)).setIfInBounds 3 (.int .i64 b1)).setIfInBounds 4 (.int .i64 b2)).setIfInBounds 51 (.bool false)) 107)) = W
        intro H0
        generalize hb : w.heap.size + 1 = b at *
        go_wp2_with fail
        refine wp_loop_rounds 3 ?_
        rw [rounds_succ]
        go_upto_region 7 with fail
        refine wp_region_seq (fun _ => True)
          [(0, 0), (1, 0), (2, 0), (3, 0), (5, 0), (6, 0), (4, 3), (7, 0), (8, 3)]
          [] (by kernel_rfl) (by kernel_rfl) (fun d _ _ _ _ h => by cases d <;> exact h) ?_
        simp only [picks, List.getD_cons_succ, List.getD_cons_zero]
        (refine seq_pure (v := ?_) (by rfl) ?_ ?_; rotate_left; focus (intro wq; first | (go_simp; done) | (go_simp; with_reducible rfl))); (try simp only [Act.put, List.setIfInBounds_toArray, List.set_cons_zero, List.set_cons_succ])
        (refine seq_pure (v := ?_) (by rfl) ?_ ?_; rotate_left; focus (intro wq; first | (go_simp; done) | (go_simp; with_reducible rfl))); (try simp only [Act.put, List.setIfInBounds_toArray, List.set_cons_zero, List.set_cons_succ])
        (refine seq_pure (v := ?_) (by rfl) ?_ ?_; rotate_left; focus (intro wq; first | (go_simp; done) | (go_simp; with_reducible rfl))); (try simp only [Act.put, List.setIfInBounds_toArray, List.set_cons_zero, List.set_cons_succ])
        (refine seq_pure (v := ?_) (by rfl) ?_ ?_; rotate_left; focus (intro wq; first | (go_simp; done) | (go_simp; with_reducible rfl))); (try simp only [Act.put, List.setIfInBounds_toArray, List.set_cons_zero, List.set_cons_succ])
        (refine seq_pure (v := ?_) (by rfl) ?_ ?_; rotate_left; focus (intro wq; first | (go_simp; done) | (go_simp; with_reducible rfl))); (try simp only [Act.put, List.setIfInBounds_toArray, List.set_cons_zero, List.set_cons_succ])
        (refine seq_pure (v := ?_) (by rfl) ?_ ?_; rotate_left; focus (intro wq; first | (go_simp; done) | (go_simp; with_reducible rfl))); (try simp only [Act.put, List.setIfInBounds_toArray, List.set_cons_zero, List.set_cons_succ])
        refine seq_do (fun K hK => ?_)
        go_simp
        refine (refnew45 _ _ _).mono ?_
        rintro e v0 ⟨rfl, hv⟩
        have hk0 : Keeps [] W v0 := by rw [hv]; exact (Keeps.refl _ _).drew.alloc _
        have hr0 := H0.out.1.keep (S := []) hk0 (by simp)
        obtain ⟨y43, c43⟩ := hr0.ex 43 (by omega)
        have f43 := hr0.free 43
        have hkk0 := H0.out.2.trans hk0 (by simp)
        have HV0 := Lib.hid (And.intro hr0 hkk0)
        clear hv hk0 hr0 hkk0
        refine hK.out _ _ ?_; clear hK; clear K
        (try simp only [Act.put, List.setIfInBounds_toArray, List.set_cons_zero, List.set_cons_succ])
        (refine seq_pure (v := ?_) (by rfl) ?_ ?_; rotate_left; focus (intro wq; first | (go_simp; done) | (go_simp; with_reducible rfl))); (try simp only [Act.put, List.setIfInBounds_toArray, List.set_cons_zero, List.set_cons_succ])
        refine seq_do (fun K hK => ?_)
        go_simp
        refine hK.out _ _ ?_; clear hK; clear K
        (try simp only [Act.put, List.setIfInBounds_toArray, List.set_cons_zero, List.set_cons_succ])
        refine seq_nil ?_
        have hs0 := HV0.out.1.any (o := 43) (v := .pointer (some ⟨W.heap.size, 0, none⟩)) (by omega)
        have hks0 : Keeps [] w (v0.setCell ⟨b, 43, none⟩ (.pointer (some ⟨W.heap.size, 0, none⟩))) := HV0.out.2.setCell (fun h => absurd h (by show ¬ b < w.heap.size; omega)) _
        have H1 := Lib.hid (And.intro hs0 hks0)
        clear hs0 hks0 c43 f43
        revert H1
        generalize v0.setCell ⟨b, 43, none⟩ (.pointer (some ⟨W.heap.size, 0, none⟩)) = W1
        intro H1
        go_wp2_with fail
        rw [rounds_succ]
        go_upto_region 7 with fail
        refine wp_region_seq (fun _ => True)
          [(0, 0), (1, 0), (2, 0), (3, 0), (5, 0), (6, 0), (4, 3), (7, 0), (8, 3)]
          [] (by kernel_rfl) (by kernel_rfl) (fun d _ _ _ _ h => by cases d <;> exact h) ?_
        simp only [picks, List.getD_cons_succ, List.getD_cons_zero]
        (refine seq_pure (v := ?_) (by rfl) ?_ ?_; rotate_left; focus (intro wq; first | (go_simp; done) | (go_simp; with_reducible rfl))); (try simp only [Act.put, List.setIfInBounds_toArray, List.set_cons_zero, List.set_cons_succ])
        (refine seq_pure (v := ?_) (by rfl) ?_ ?_; rotate_left; focus (intro wq; first | (go_simp; done) | (go_simp; with_reducible rfl))); (try simp only [Act.put, List.setIfInBounds_toArray, List.set_cons_zero, List.set_cons_succ])
        (refine seq_pure (v := ?_) (by rfl) ?_ ?_; rotate_left; focus (intro wq; first | (go_simp; done) | (go_simp; with_reducible rfl))); (try simp only [Act.put, List.setIfInBounds_toArray, List.set_cons_zero, List.set_cons_succ])
        (refine seq_pure (v := ?_) (by rfl) ?_ ?_; rotate_left; focus (intro wq; first | (go_simp; done) | (go_simp; with_reducible rfl))); (try simp only [Act.put, List.setIfInBounds_toArray, List.set_cons_zero, List.set_cons_succ])
        (refine seq_pure (v := ?_) (by rfl) ?_ ?_; rotate_left; focus (intro wq; first | (go_simp; done) | (go_simp; with_reducible rfl))); (try simp only [Act.put, List.setIfInBounds_toArray, List.set_cons_zero, List.set_cons_succ])
        (refine seq_pure (v := ?_) (by rfl) ?_ ?_; rotate_left; focus (intro wq; first | (go_simp; done) | (go_simp; with_reducible rfl))); (try simp only [Act.put, List.setIfInBounds_toArray, List.set_cons_zero, List.set_cons_succ])
        refine seq_do (fun K hK => ?_)
        go_simp
        refine (refnew45 _ _ _).mono ?_
        rintro e v1 ⟨rfl, hv⟩
        have hk1 : Keeps [] W1 v1 := by rw [hv]; exact (Keeps.refl _ _).drew.alloc _
        have hr1 := H1.out.1.keep (S := []) hk1 (by simp)
        obtain ⟨y44, c44⟩ := hr1.ex 44 (by omega)
        have f44 := hr1.free 44
        have hkk1 := H1.out.2.trans hk1 (by simp)
        have HV1 := Lib.hid (And.intro hr1 hkk1)
        clear hv hk1 hr1 hkk1
        refine hK.out _ _ ?_; clear hK; clear K
        (try simp only [Act.put, List.setIfInBounds_toArray, List.set_cons_zero, List.set_cons_succ])
        (refine seq_pure (v := ?_) (by rfl) ?_ ?_; rotate_left; focus (intro wq; first | (go_simp; done) | (go_simp; with_reducible rfl))); (try simp only [Act.put, List.setIfInBounds_toArray, List.set_cons_zero, List.set_cons_succ])
        refine seq_do (fun K hK => ?_)
        go_simp
        refine hK.out _ _ ?_; clear hK; clear K
        (try simp only [Act.put, List.setIfInBounds_toArray, List.set_cons_zero, List.set_cons_succ])
        refine seq_nil ?_
        have hs1 := HV1.out.1.any (o := 44) (v := .pointer (some ⟨W1.heap.size, 0, none⟩)) (by omega)
        have hks1 : Keeps [] w (v1.setCell ⟨b, 44, none⟩ (.pointer (some ⟨W1.heap.size, 0, none⟩))) := HV1.out.2.setCell (fun h => absurd h (by show ¬ b < w.heap.size; omega)) _
        have H2 := Lib.hid (And.intro hs1 hks1)
        clear hs1 hks1 c44 f44
        revert H2
        generalize v1.setCell ⟨b, 44, none⟩ (.pointer (some ⟨W1.heap.size, 0, none⟩)) = W2
        intro H2
        go_wp2_with fail
        rw [rounds_succ]
        go_wp2_with (go_at_call 46; refine (refstart _ _ _ _ _ _ _ H2.out.1).mono ?_; rintro e w9 ⟨rfl, cs9, h9, k9⟩; have H9 := Lib.hid (And.intro h9 k9); clear h9 k9)
        go_ret
        refine ⟨b, cs9, rfl, ?_, by omega, (H2.out.2.trans H9.out.2 (fun y hy hl => by simp at hy; omega))⟩
        rw [HU.out]; exact H9.out.1
end Go.Proofs.Sess
