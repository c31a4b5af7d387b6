/- A room and tasks are drawn; the laws FnDownSame and FnDownBest. -/
import Derived.Test.YtllchacophapoaaDoorK29
import Derived.Test.YtllchacophapoaaDoorK34
import Derived.Test.YtllchacophapoaaDoorK35
import Derived.Test.YtllchacophapoaaDoorK11
namespace Go.Proofs.YtllchacophapoaaDoor
open Go.RowKit
set_option maxRecDepth 4000

def DrawnTV (w : World) (e : Ending) (w' : World) : Prop := ∃ rv tv room ts, e = .returned (.tuple #[rv, tv]) ∧ RI w' rv room ∧ RT w' tv ts ∧ ts.length ≤ 16 ∧ (∀ t ∈ ts, GoodT t) ∧ Ext w w'

theorem drop_rev {α : Type} {ts : List α} {m : Nat} {x : α} (h : ts[m]? = some x) : (ts.drop (m + 1)).reverse ++ [x] = (ts.drop m).reverse := by
  obtain ⟨hm, rfl⟩ := List.getElem?_eq_some_iff.1 h
  rw [List.drop_eq_getElem_cons hm, List.reverse_cons]

end Go.Proofs.YtllchacophapoaaDoor

/- A room and few tasks are drawn. -/
namespace Go.Proofs.YtllchacophapoaaDoor
open Go.RowKit
set_option maxRecDepth 4000

def DrawnFew (w : World) (b : Nat) (bv : Value) (bs : List Int) (p : Nat) (e : Ending) (w' : World) : Prop := ∃ rv tv room ts, e = .returned (.tuple #[rv, tv]) ∧ RI w' rv room ∧ RT w' tv ts ∧ ts.length ≤ 16 ∧ (∀ t ∈ ts, GoodT t) ∧ ∃ K, DrawR w b bv bs p K w'

theorem dTasksI (b : Nat) (bv : Value) (bs : List Int) (p : Nat) (many : Nat) (a : Int) (ha : a = (many : Int)) (w : World) (h : Rd w b bv bs p) (hp : p ≤ 800000) (hm : many ≤ 20) :
    Calls Tryd.prog 67 #[.pointer (some ⟨b, 0, none⟩), .int .i64 a] w fun e w' => ∃ v ts, e = .returned v ∧ RT w' v ts ∧ ts.length ≤ many + 1 ∧ (∀ t ∈ ts, GoodT t) ∧ DrawR w b bv bs p (9 * many + 10) w' := by
  subst ha
  exact dTasks b bv bs p many w h hp hm

set_option maxHeartbeats 400000 in
theorem dFew (b : Nat) (bv : Value) (bs : List Int) (p : Nat) (w : World) (h : Rd w b bv bs p) (hp : p ≤ 700000) :
    Calls Tryd.prog 39 #[.pointer (some ⟨b, 0, none⟩)] w (DrawnFew w b bv bs p) := by
  have HR0 := hid h
  have TK0 : Hid True := hid trivial
  clear h
  go_enter Tryd.func39, Tryd.ntmps39
  go_wp2_with (first
    | (go_at_call 65; refine (dRoom b bv bs p _ HR0.out (by omega)).mono ?_; rintro e w2 ⟨rv, room, rfl, hO2, hl2, hb2, hd2⟩; have HO2 := hid hO2; have HD2 := hid hd2; clear hO2 hl2 hb2 hd2)
    | (go_at_call 66; clear TK0; obtain ⟨hg, pp, hpp, hr⟩ := HD2.out; refine (dPick b bv bs pp _ _ hr (by omega) (by omega)).mono ?_; rintro e w3 ⟨x3, rfl, hx, hg3, hr3⟩; have hx3 := pick_lt hx (by decide); have HD3 := hid (DrawR.more HD2.out hg3 hr3 hpp); have HO3 := hid (Own.same EI.ok HO2.out ((show Gr b w2 w3 from hg3).same hr _ notRd)); have TK1 : Hid True := hid trivial; clear hg hpp hr hx hg3 hr3)
    | (go_at_call 66; clear TK1; obtain ⟨hg, pp, hpp, hr⟩ := HD3.out; refine (dPick b bv bs pp _ _ hr (by omega) (by omega)).mono ?_; rintro e w4 ⟨x4, rfl, hx, hg4, hr4⟩; have hx4 := pick_lt hx (by decide); have HD4 := hid (DrawR.more HD3.out hg4 hr4 hpp); have HO4 := hid (Own.same EI.ok HO3.out ((show Gr b w3 w4 from hg4).same hr _ notRd)); have hw7 : IntKind.i64.wrap (7 + (x4 : Int)) = ((7 + x4 : Nat) : Int) := (by rw [IntWalk.i64_in _ (by omega)]; omega); clear hg hpp hr hx hg4 hr4)
    | (go_at_call 67; obtain ⟨hg, pp, hpp, hr⟩ := HD4.out; refine (dTasksI b bv bs pp (7 + x4) _ (by omega) _ hr (by omega) (by omega)).mono ?_; rintro e w5 ⟨tv, ts, rfl, hT5, hl5, hg5, hd5⟩; have HT5 := hid hT5; have HL5 : Hid (ts.length ≤ 16) := hid (by omega); have HG5 := hid hg5; have HD5 := hid (DrawR.then hg hpp hd5); have HO5 := hid (Own.same EI.ok HO4.out (hd5.1.same hr _ notRd)); clear hg hpp hr hT5 hl5 hg5 hd5)
    | (go_at_call 67; obtain ⟨hg, pp, hpp, hr⟩ := HD4.out; refine (dTasksI b bv bs pp x4 _ (by omega) _ hr (by omega) (by omega)).mono ?_; rintro e w5 ⟨tv, ts, rfl, hT5, hl5, hg5, hd5⟩; have HT5 := hid hT5; have HL5 : Hid (ts.length ≤ 16) := hid (by omega); have HG5 := hid hg5; have HD5 := hid (DrawR.then hg hpp hd5); have HO5 := hid (Own.same EI.ok HO4.out (hd5.1.same hr _ notRd)); clear hg hpp hr hT5 hl5 hg5 hd5))
  · refine bodyPost_ret (results_tmp2 rfl _ _ _) rfl ?_
    exact ⟨_, _, room, ts, rfl, HO5.out.read, HT5.out, HL5.out, HG5.out, _, HD5.out⟩
  · refine bodyPost_ret (results_tmp2 rfl _ _ _) rfl ?_
    exact ⟨_, _, room, ts, rfl, HO5.out.read, HT5.out, HL5.out, HG5.out, _, HD5.out⟩
set_option maxHeartbeats 2000000 in
theorem dDrawLeastAll (v : Value) (bs : List Int) (w : World) (h : XBy w v bs) (hl : bs.length ≤ 4000000) :
    Calls Tryd.prog 18 #[v] w (DrawnTV w) := by
  go_enter Tryd.func18, Tryd.ntmps18
  go_wp2_with (first
    | (go_at_call 40; refine (dOpen _ bs _ h hl).mono ?_; rintro e w1 ⟨rfl, ⟨bv, bs', hr1⟩, hE1⟩; have HR1 := hid hr1; have HE1 := hid hE1; obtain ⟨b, hb⟩ : ∃ b, b = w.heap.size := ⟨_, rfl⟩; rw [← hb] at HR1 ⊢; have hbw : w.heap.size ≤ b := (by rw [hb]; exact Nat.le_refl _); have hb1 : b < w1.heap.size := HR1.out.low.1; clear hb hr1 hE1)
    | (go_at_call 39; refine (dFew b bv bs' 0 _ HR1.out (by omega)).mono ?_; rintro e w2 ⟨rv, tv, room, ts, rfl, hr2, ht2, hl2, hg2, K2, hd2⟩; have HR2 := hid hr2; have HT2 := hid ht2; have HL2 := hid hl2; have HG2 := hid hg2; have HD2 := hid hd2; clear hr2 ht2 hl2 hg2 hd2))
  refine bodyPost_ret (results_tmp2 rfl _ _ _) rfl ?_
  exact ⟨_, _, room, ts, rfl, HR2.out, HT2.out, HL2.out, HG2.out, Below.trans HE1.out (HD2.out.1.below (H := w.heap.size) hbw HE1.out.size)⟩
set_option maxHeartbeats 2000000 in
theorem dDrawLeastCount (v : Value) (bs : List Int) (w : World) (h : XBy w v bs) (hl : bs.length ≤ 4000000) :
    Calls Tryd.prog 25 #[v] w (DrawnTV w) := by
  go_enter Tryd.func25, Tryd.ntmps25
  go_wp2_with (first
    | (go_at_call 40; refine (dOpen _ bs _ h hl).mono ?_; rintro e w1 ⟨rfl, ⟨bv, bs', hr1⟩, hE1⟩; have HR1 := hid hr1; have HE1 := hid hE1; obtain ⟨b, hb⟩ : ∃ b, b = w.heap.size := ⟨_, rfl⟩; rw [← hb] at HR1 ⊢; have hbw : w.heap.size ≤ b := (by rw [hb]; exact Nat.le_refl _); have hb1 : b < w1.heap.size := HR1.out.low.1; clear hb hr1 hE1)
    | (go_at_call 39; refine (dFew b bv bs' 0 _ HR1.out (by omega)).mono ?_; rintro e w2 ⟨rv, tv, room, ts, rfl, hr2, ht2, hl2, hg2, K2, hd2⟩; have HR2 := hid hr2; have HT2 := hid ht2; have HL2 := hid hl2; have HG2 := hid hg2; have HD2 := hid hd2; clear hr2 ht2 hl2 hg2 hd2))
  refine bodyPost_ret (results_tmp2 rfl _ _ _) rfl ?_
  exact ⟨_, _, room, ts, rfl, HR2.out, HT2.out, HL2.out, HG2.out, Below.trans HE1.out (HD2.out.1.below (H := w.heap.size) hbw HE1.out.size)⟩

end Go.Proofs.YtllchacophapoaaDoor

/- The law FnDownBest. -/
namespace Go.Proofs.YtllchacophapoaaDoor
open Go.RowKit
set_option maxRecDepth 4000

theorem iBinsTasksN (rv v : Value) (room : List Int) (bs : List (List TaskD)) (w : World) (hR : RI w rv room) (h : RB w v bs) (hfl : bs.flatten.length ≤ 4000000) (hid' : ∀ t ∈ bs.flatten, IdR t.id) :
    Calls Tryd.prog 21 #[rv, v] w fun e w' => ∃ v, e = .returned v ∧ RT w' v (binsTasksN room bs) ∧ Ext w w' := by
  cases hv : binsOk room bs with
  | true =>
    have e : binsTasksN room bs = bs.flatten := by unfold binsTasksN; rw [hv]; rfl
    rw [e]
    exact iBinsTasks rv v room bs w hR h hfl hid' hv
  | false =>
    have e : binsTasksN room bs = [] := by unfold binsTasksN; rw [hv]; rfl
    rw [e]
    have HR := hid hR
    have HB := hid h
    have HI := hid hid'
    have HF := hid hfl
    obtain ⟨Ar, cr, rfl, _⟩ := RI.get hR
    obtain ⟨Ab, cb, rfl⟩ := bin_row h
    clear hR h hid' hfl e
    go_enter Tryd.func21, Tryd.ntmps21
    go_wp2_with (go_at_call 23; refine (iBinsValid _ _ room bs _ HR.out HB.out HF.out HI.out).mono ?_; rw [hv]; rintro e w1 ⟨rfl, hE1⟩; have HE1 := hid hE1; clear hE1)
    go_ret
    exact ⟨_, rfl, RSl.nil_ _ _ _ _ _ _ (by omega), HE1.out⟩
theorem downBest_sub {room : List Int} {ts : List TaskD} : (downBestN room ts).flatten.length ≤ ts.length ∧ ∀ t ∈ (downBestN room ts).flatten, t ∈ ts := by
  cases h : tasksOk room ts with
  | true =>
    obtain ⟨e1, h1⟩ := sortN_ok h
    have e : downBestN room ts = allBy (fun bs x => bestAt room bs x) (sortT ts) := by unfold downBestN bestAllN; rw [e1, h1]; rfl
    have hp := (allBy_perm (chooses_best room) (sortT ts).length (sortT ts) rfl).1
    rw [e]
    exact ⟨by rw [hp.length_eq, sortT_len]; exact Nat.le_refl _, fun t ht => (sortT_perm ts).mem_iff.1 (hp.mem_iff.1 ht)⟩
  | false =>
    have e3 : sortN room ts = [] := by unfold sortN; rw [h]; rfl
    have e5 : downBestN room ts = [] := by unfold downBestN; rw [e3, bestAllN_nil]
    rw [e5]
    exact ⟨Nat.zero_le _, fun t ht => by cases ht⟩

end Go.Proofs.YtllchacophapoaaDoor
