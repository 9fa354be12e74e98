/- Contracts of functions that the law reaches, each a walk through its code. No condition beyond each theorem's own hypotheses. -/
import Derived.Test.YtlfopemghafboaaDh15
import Derived.Test.YtlfopemghafboaaDp0
import Derived.Test.YtlfopemghafboaaDh8
import Derived.WalkSpells
import Derived.Handy
import Derived.StillTailTactics
import Derived.IntWalk
import Derived.Deep.LoopGhost
import Derived.Deep.RegionWith
import Derived.Deep.RegionHeld3
import Derived.Shelf.Abstract
namespace Go.Proofs.Ytlfopemghafboaa.D
open Go.RowKit Go.Proofs.YtlfopemghafboaaW.PrintWords Go.Proofs.YtlfopemghafboaaW.PrintLast Go.Proofs.YtlfopemghafboaaW.PrintMore
set_option linter.unusedVariables false
set_option linter.unusedSimpArgs false
theorem planAt_box {w w2 : World} {g : Nat} {R : List S42} {E : List S80} {A0 A1 : Option Addr} {c0 c1 : Nat} (hx : w2.heap[g]? = some (.cells #[.slice A0 R.length c0, .slice A1 E.length c1] 25 (0, 0))) (hb : Below w.heap.size w w2) (h0 : Kd.C k42 w A0 R.length R) (hc0 : R.length ≤ c0) (h1 : Kd.C k80 w A1 E.length E) (hc1 : E.length ≤ c1) : PlanAt w2 g R E :=
  ⟨A0, c0, A1, c1, hx, Kd.C_below h0 hb, Kd.C_below h1 hb, hc0, hc1⟩
theorem isPlan_eq (g : Nat) (R : List S42) (E : List S80) (w : World) (hP : PlanAt w g R E) {b : Bool} (hb : planOK R E = b) : Calls Try.prog 58 #[.pointer (some ⟨g, 0, none⟩)] w fun e' w' => e' = .returned (.bool b) ∧ Below w.heap.size w w' := hb ▸ isPlan_any g R E w hP
theorem earliest_plan (R : List S42) (E : List S80) (w0 w : World) (v : Value) (hO : Out w0 w v (bindsL R E)) (hK : PlanOK R E) (out : List Int) (is : Bool) (hF : earliestF (bindsL R E) E.length = some (out, is)) :
    Calls Try.prog 75 #[v, .int .i64 (E.length : Int)] w fun e' w' => ∃ v, e' = .returned (.tuple #[v, .bool is]) ∧ OutI w w' v out := earliest_bs _ E.length w0 w v hO hK.pos hK.len (by have := bindsL_len hK; omega) (bindsL_in hK) out is hF
theorem chain_bs (R : List S42) (E : List S80) (w0 w : World) (v : Value) (hO : Out w0 w v (bindsL R E)) (A1 : Option Addr) (c1 : Nat) (l : List Int) (h1 : Kd.C (Kd.int .i64) w A1 l.length l) (a b s : Int) (ok : Bool) (hF : chainF (bindsL R E) l = (a, b, s, ok)) :
    Calls Try.prog 66 #[v, .slice A1 l.length c1] w fun e w' => e = .returned (.tuple #[.int .i64 a, .int .i64 b, .int .i64 s, .bool ok]) ∧ Below w.heap.size w w' := by
  obtain ⟨A, c, rfl, _, hC⟩ := hO.reads
  have h := chain_any A c (bindsL R E) A1 c1 l w hC h1
  rw [hF] at h
  exact h
theorem tight_bs (R : List S42) (E : List S80) (w0 w : World) (v : Value) (hO : Out w0 w v (bindsL R E)) (hK : PlanOK R E) (a b : Int) (ha : 0 ≤ a ∧ a < E.length) (hb : 0 ≤ b ∧ b < E.length) (m : Int) (out : List Int) (is : Bool) (hF : tightF (bindsL R E) E.length a b = some (m, out, is)) :
    Calls Try.prog 61 #[v, .int .i64 (E.length : Int), .int .i64 a, .int .i64 b] w fun e' w' => ∃ v, e' = .returned (.tuple #[.int .i64 m, v, .bool is]) ∧ OutI w w' v out := by
  obtain ⟨A, c, rfl, _, hC⟩ := hO.reads
  exact tight_any A c (bindsL R E) E.length a b w hK.pos hK.len ha.2 hb.1 hb.2 hC (by have := bindsL_len hK; omega) (fun i hi => in_rd (bindsL_in hK) i hi) m out is hF
theorem betw {a n : Int} (h : betweenB a 0 (n - 1) = true) : 0 ≤ a ∧ a < n := by simp [betweenB] at h; omega
def breachB (R : List S42) (E : List S80) (d : S56) : Bool := match breachF R E d with | some (_, b) => b | none => false
theorem en68 (args : Array Value) (w : World) : (callFunc 68 args).run Try.prog w = .ok (.enter 68 args) w := enters_of Try.func68 (by kernel_rfl) rfl args w
theorem en71 (args : Array Value) (w : World) : (callFunc 71 args).run Try.prog w = .ok (.enter 71 args) w := enters_of Try.func71 (by kernel_rfl) rfl args w
set_option maxHeartbeats 1600000 in
theorem holds1_any (g : Nat) (R : List S42) (E : List S80) (d : S56) (hE : E.length ≤ 100) (W : World) (hP : PlanAt W g R E) :
    Calls Try.prog 68 #[.agg #[.int .i64 d.f0, .int .i64 d.f1, .int .i64 d.f2, .int .i64 d.f3], .pointer (some ⟨g, 0, none⟩)] W fun e W' => e = .returned (.bool (!demOK E.length d)) ∧ Below W.heap.size W W' := by
  have HP := Aside0.mk hP
  have HE := Aside0.mk hE
  clear hP hE
  go_enter Try.func68, Try.ntmps68
  go_wp2_with (first
    | ((with_reducible refine gate_dst (N := 2) rfl ?_); refine box_event ?hg (N := 2) ?hd (cs := #[.int .i64 d.f0, .int .i64 d.f1, .int .i64 d.f2, .int .i64 d.f3]) (t := 56) ?hr ?_; (case hd => rfl); (case hg => rfl); (case hr => first | (go_simp; done) | (go_simp; rfl)); intro gb hg w2 hbox hb; have HB := Aside0.mk hb; have cb0 : w2.cell? ⟨gb, 0, none⟩ = some (.int .i64 d.f0) := (blk_cell hbox 0).trans rfl; have cb1 : w2.cell? ⟨gb, 1, none⟩ = some (.int .i64 d.f1) := (blk_cell hbox 1).trans rfl; have cb2 : w2.cell? ⟨gb, 2, none⟩ = some (.int .i64 d.f2) := (blk_cell hbox 2).trans rfl; have cb3 : w2.cell? ⟨gb, 3, none⟩ = some (.int .i64 d.f3) := (blk_cell hbox 3).trans rfl; clear hbox hb hg)
    | (go_at_call 69; refine (isDemand_any d g R E HE.out _ (HP.out.below HB.out)).mono ?_; rintro e w3 ⟨rfl, hb3⟩; have HB3 := Aside0.mk (below_step HB.out hb3); clear hb3))
  go_ret
  exact ⟨rfl, HB3.out⟩
set_option maxHeartbeats 1600000 in
theorem holds2_any (g : Nat) (R : List S42) (E : List S80) (d : S56) (W : World) (hP : PlanAt W g R E) (hK : PlanOK R E) (h0 : 0 ≤ d.f0 ∧ d.f0 < E.length) (h1 : 0 ≤ d.f1 ∧ d.f1 < E.length) (hS : (breachF R E d).isSome = true) :
    Calls Try.prog 71 #[.agg #[.int .i64 d.f0, .int .i64 d.f1, .int .i64 d.f2, .int .i64 d.f3], .pointer (some ⟨g, 0, none⟩)] W fun e W' => e = .returned (.bool (breachB R E d)) ∧ Below W.heap.size W W' := by
  obtain ⟨q, hq⟩ := Option.isSome_iff_exists.1 hS
  obtain ⟨o, is⟩ := q
  have hB : breachB R E d = is := by unfold breachB; rw [hq]
  rw [hB]
  have HP := Aside0.mk hP
  have HK := Aside0.mk hK
  have HQ := Aside0.mk hq
  have H0 := Aside0.mk h0
  have H1 := Aside0.mk h1
  clear hP hK hq hB h0 h1 hS
  go_enter Try.func71, Try.ntmps71
  go_wp2_with (first
    | ((with_reducible refine gate_dst (N := 2) rfl ?_); refine box_event ?hg (N := 2) ?hd (cs := #[.int .i64 d.f0, .int .i64 d.f1, .int .i64 d.f2, .int .i64 d.f3]) (t := 56) ?hr ?_; (case hd => rfl); (case hg => rfl); (case hr => first | (go_simp; done) | (go_simp; rfl)); intro gb hg w2 hbox hb; have HB := Aside0.mk hb; have cb0 : w2.cell? ⟨gb, 0, none⟩ = some (.int .i64 d.f0) := (blk_cell hbox 0).trans rfl; have cb1 : w2.cell? ⟨gb, 1, none⟩ = some (.int .i64 d.f1) := (blk_cell hbox 1).trans rfl; have cb2 : w2.cell? ⟨gb, 2, none⟩ = some (.int .i64 d.f2) := (blk_cell hbox 2).trans rfl; have cb3 : w2.cell? ⟨gb, 3, none⟩ = some (.int .i64 d.f3) := (blk_cell hbox 3).trans rfl; clear hbox hb hg)
    | (go_at_call 72; refine (breach_any g R E d _ (HP.out.below HB.out) HK.out H0.out H1.out o is HQ.out).mono ?_; rintro e w3 ⟨v3, rfl, hO3⟩; have HB3 := Aside0.mk (below_step HB.out hO3.2); clear hO3))
  go_ret
  exact ⟨rfl, HB3.out⟩
theorem demOK_in {n : Nat} {d : S56} (h : demOK n d = true) : (0 ≤ d.f0 ∧ d.f0 < n) ∧ (0 ≤ d.f1 ∧ d.f1 < n) := by
  unfold demOK at h
  simp only [Bool.and_eq_true] at h
  exact ⟨betw h.1.1.1, betw h.1.1.2⟩
theorem holdsAny_any (g : Nat) (R : List S42) (E : List S80) (A : Option Addr) (c : Nat) (l : List S56) (w : World) (hP : PlanAt w g R E) (hE : E.length ≤ 100) (hr : Kd.C k56 w A l.length l) {b : Bool} (hb : (l.any fun d => !demOK E.length d) = b) :
    Calls Try.prog 67 #[.slice A l.length c, .func (.func 68) #[] #[.pointer (some ⟨g, 0, none⟩)]] w fun e w' => e = .returned (.bool b) ∧ Below w.heap.size w w' :=
  hb ▸ any_dem 68 en68 #[.pointer (some ⟨g, 0, none⟩)] (fun d => !demOK E.length d) A c l w hr (fun i _ _ W hW => holds1_any g R E (rd_T56 l i) hE W (hP.below hW))
theorem holdsIdx_any (g : Nat) (R : List S42) (E : List S80) (A : Option Addr) (c : Nat) (l : List S56) (w : World) (hP : PlanAt w g R E) (hK : PlanOK R E) (hr : Kd.C k56 w A l.length l) (hd : (l.any fun d => !demOK E.length d) = false) (hs : (l.all fun d => (breachF R E d).isSome) = true) :
    Calls Try.prog 70 #[.slice A l.length c, .func (.func 71) #[] #[.pointer (some ⟨g, 0, none⟩)]] w fun e w' => e = .returned (.int .i64 (idxOf (breachB R E) l)) ∧ Below w.heap.size w w' := by
  refine idx_dem 71 en71 #[.pointer (some ⟨g, 0, none⟩)] (breachB R E) A c l w hr (fun i h0 h1 W hW => ?_)
  have hi : i.toNat < l.length := by omega
  have he : rd_T56 l i = l[i.toNat] := by simp [rd_T56, List.getD_eq_getElem?_getD, List.getElem?_eq_getElem hi]
  have hm : rd_T56 l i ∈ l := by rw [he]; exact List.getElem_mem hi
  have hdm : demOK E.length (rd_T56 l i) = true := by
    rw [List.any_eq_false] at hd
    have := hd _ hm
    simpa using this
  have hsm : (breachF R E (rd_T56 l i)).isSome = true := by
    rw [List.all_eq_true] at hs
    exact hs _ hm
  exact holds2_any g R E (rd_T56 l i) W (hP.below hW) hK (demOK_in hdm).1 (demOK_in hdm).2 hsm
def StopAt (p : Prop) : Prop := p
theorem StopAt.mk {p : Prop} (h : StopAt p) : p := h
def runGo (bs : List S27) (ch : List Int) : Nat → List Int → Option (List Int × Bool)
  | 0, ts => some (ts, true)
  | k + 1, ts => match dr_window.f (2 * bs.length + 3) bs ts (ts.length : Int) with
    | none => none
    | some (lo, hi) => if hi < lo then some ([], false) else
        if ts.length < ch.length then
          if wrap64 (wrap64 (hi - lo) + 1) = 0 then none
          else runGo bs ch k (ts ++ [wrap64 (lo + Int.tmod (wrap64 (Int.tmod (rd ch (ts.length : Int)) (wrap64 (wrap64 (hi - lo) + 1)) + wrap64 (wrap64 (hi - lo) + 1))) (wrap64 (wrap64 (hi - lo) + 1)))])
        else runGo bs ch k (ts ++ [wrap64 (lo + 0)])
theorem window_bs (R : List S42) (E : List S80) (w0 wa w : World) (v v1 : Value) (bs : List S27) (ts : List Int) (hO : Out w0 w v bs) (hT : OutI wa w v1 ts) (e lo hi : Int) (hF : dr_window.f (2 * bs.length + 3) bs ts e = some (lo, hi)) :
    Calls Try.prog 80 #[v, v1, .int .i64 e] w fun e' w' => e' = .returned (.tuple #[.int .i64 lo, .int .i64 hi]) ∧ Below w.heap.size w w' := by
  obtain ⟨A, c, rfl, hc, hC⟩ := hO.reads
  obtain ⟨A1, c1, rfl, hc1, hC1⟩ := Kd.R_reads hT.1
  exact dr_window.calls _ A c bs A1 c1 ts e lo hi w hC hc hC1 hc1 hF
theorem reps0 (W : World) (base : Nat) (ok : Nat → Prop) : Reps ((Kd.int .i64).M W base ok) (Kd.int .i64).sz ([0] : List Int) [.int .i64 0] := by
  refine ⟨rfl, fun j x hx => ?_⟩
  have hj : j < 1 := by have := (List.getElem?_eq_some_iff.1 hx).1; simpa using this
  obtain rfl : j = 0 := by omega
  simp at hx
  subst hx
  rfl
/-! ### Check -/
/-! ### Readings -/
/-! ### Binds -/
def dr_Binds.f (R : List (S42)) (E : List (S80)) : Option (List (S27) × Int) := some (if planOK R E = true then (bindsL R E, 0) else ([], 311))
set_option maxHeartbeats 3200000 in
set_option maxRecDepth 100000 in
theorem dr_Binds.calls (A0_0 : Option Addr) (c0_0 : Nat) (l0_0 : List (S42)) (A0_1 : Option Addr) (c0_1 : Nat) (l0_1 : List (S80)) (r1 : List (S27)) (r2 : Int) (w : World) (hr0_0 : Kd.C k42 w A0_0 l0_0.length l0_0) (hc0_0 : l0_0.length ≤ c0_0) (hr0_1 : Kd.C k80 w A0_1 l0_1.length l0_1) (hc0_1 : l0_1.length ≤ c0_1) (h : dr_Binds.f l0_0 l0_1 = some (r1, r2)) :
    Calls Try.prog 46 #[.agg #[.slice A0_0 l0_0.length c0_0, .slice A0_1 l0_1.length c0_1]] w fun e w' => ∃ v0_ : Value, e = .returned (.tuple #[v0_, .int .i64 r2]) ∧ Kd.R k27 27 w' w.heap.size (fun _ => True) v0_ r1 ∧ Below w.heap.size w w' := by
  have HR0 := Aside0.mk hr0_0
  have HC0 := Aside0.mk hc0_0
  have HR1 := Aside0.mk hr0_1
  have HC1 := Aside0.mk hc0_1
  unfold dr_Binds.f at h
  cases hOK : planOK l0_0 l0_1
  · rw [hOK] at h
    have HOK := Aside0.mk hOK
    simp only [Bool.false_eq_true, if_false, Option.some.injEq, Prod.mk.injEq] at h
    obtain ⟨rfl, rfl⟩ := h
    clear hr0_0 hc0_0 hr0_1 hc0_1 hOK
    go_enter Try.func46, Try.ntmps46
    go_wp2_with (first | ((with_reducible refine gate_dst (N := 1) rfl ?_); refine box_event ?hg (N := 1) ?hd (cs := #[.slice A0_0 l0_0.length c0_0, .slice A0_1 l0_1.length c0_1]) (t := 25) ?hr ?_; (case hd => rfl); (case hg => rfl); (case hr => first | (go_simp; done) | (go_simp; rfl)); intro gb hg w2 hbox hb; have HB := Aside0.mk hb; have HP := Aside0.mk (planAt_box hbox hb HR0.out HC0.out HR1.out HC1.out); clear hbox hb hg) | (go_at_call 58; refine (isPlan_eq gb l0_0 l0_1 _ HP.out HOK.out).mono ?_; rintro e w3 ⟨rfl, hb3⟩; have HB3 := Aside0.mk (below_step HB.out hb3); have HP3 := Aside0.mk (HP.out.below hb3); clear hb3))
    go_ret2
    exact ⟨_, rfl, Kd.R_nil _ _ _ _ _, HB3.out⟩
  · rw [hOK] at h
    have HOK := Aside0.mk hOK
    have HK := Aside0.mk ((planOK_iff l0_0 l0_1).1 hOK)
    simp only [if_true, Option.some.injEq, Prod.mk.injEq] at h
    obtain ⟨rfl, rfl⟩ := h
    clear hr0_0 hc0_0 hr0_1 hc0_1 hOK
    go_enter Try.func46, Try.ntmps46
    go_wp2_with (first | ((with_reducible refine gate_dst (N := 1) rfl ?_); refine box_event ?hg (N := 1) ?hd (cs := #[.slice A0_0 l0_0.length c0_0, .slice A0_1 l0_1.length c0_1]) (t := 25) ?hr ?_; (case hd => rfl); (case hg => rfl); (case hr => first | (go_simp; done) | (go_simp; rfl)); intro gb hg w2 hbox hb; have HB := Aside0.mk hb; have HP := Aside0.mk (planAt_box hbox hb HR0.out HC0.out HR1.out HC1.out); clear hbox hb hg) | (go_at_call 58; refine (isPlan_eq gb l0_0 l0_1 _ HP.out HOK.out).mono ?_; rintro e w3 ⟨rfl, hb3⟩; have HB3 := Aside0.mk (below_step HB.out hb3); have HP3 := Aside0.mk (HP.out.below hb3); clear hb3) | (go_at_call 62; refine (binds_any gb l0_0 l0_1 _ HP3.out HK.out.toEvsOK).mono ?_; rintro e w4 ⟨v4, rfl, hO⟩; have HO := Aside0.mk hO; have HB4 := Aside0.mk (below_step HB3.out hO.2); clear hO))
    go_ret2
    exact ⟨_, rfl, Kd.R_lower HO.out.1 HB3.out.size, HB4.out⟩
/-! ### CheckTimes -/
/-! ### Run -/
def dr_Run.f (R : List (S42)) (E : List (S80)) (l1 : List Int) : Option (List Int × Bool × Int) := if planOK R E = true then (match runGo (bindsL R E) l1 (E.length - 1) [0] with | none => none | some q => some (q.1, q.2, 0)) else some ([], false, 311)
set_option maxHeartbeats 3200000 in
set_option maxRecDepth 100000 in
theorem dr_Run.calls (A0_0 : Option Addr) (c0_0 : Nat) (l0_0 : List (S42)) (A0_1 : Option Addr) (c0_1 : Nat) (l0_1 : List (S80)) (A1 : Option Addr) (c1 : Nat) (l1 : List Int) (r1 : List Int) (r2 : Bool) (r3 : Int) (w : World) (hr0_0 : Kd.C k42 w A0_0 l0_0.length l0_0) (hc0_0 : l0_0.length ≤ c0_0) (hr0_1 : Kd.C k80 w A0_1 l0_1.length l0_1) (hc0_1 : l0_1.length ≤ c0_1) (hr1 : Kd.C (Kd.int .i64) w A1 l1.length l1) (hc1 : l1.length ≤ c1) (h : dr_Run.f l0_0 l0_1 l1 = some (r1, r2, r3)) :
    Calls Try.prog 49 #[.agg #[.slice A0_0 l0_0.length c0_0, .slice A0_1 l0_1.length c0_1], .slice A1 l1.length c1] w fun e w' => ∃ v0_ : Value, e = .returned (.tuple #[v0_, .bool r2, .int .i64 r3]) ∧ Kd.R (Kd.int .i64) 3 w' w.heap.size (fun _ => True) v0_ r1 ∧ Below w.heap.size w w' := by
  have HR0 := Aside0.mk hr0_0
  have HC0 := Aside0.mk hc0_0
  have HR1 := Aside0.mk hr0_1
  have HC1 := Aside0.mk hc0_1
  have HL := Aside0.mk hr1
  clear hr1 hc1
  unfold dr_Run.f at h
  cases hOK : planOK l0_0 l0_1
  · rw [hOK] at h
    have HOK := Aside0.mk hOK
    simp only [Bool.false_eq_true, if_false, Option.some.injEq, Prod.mk.injEq] at h
    obtain ⟨rfl, rfl, rfl⟩ := h
    clear hr0_0 hc0_0 hr0_1 hc0_1 hOK
    go_enter Try.func49, Try.ntmps49
    go_wp2_with (first | ((with_reducible refine gate_dst (N := 2) rfl ?_); refine box_event ?hg (N := 2) ?hd (cs := #[.slice A0_0 l0_0.length c0_0, .slice A0_1 l0_1.length c0_1]) (t := 25) ?hr ?_; (case hd => rfl); (case hg => rfl); (case hr => first | (go_simp; done) | (go_simp; rfl)); intro gb hg w2 hbox hb; have HB := Aside0.mk hb; have HP := Aside0.mk (planAt_box hbox hb HR0.out HC0.out HR1.out HC1.out); clear hbox hb hg) | (go_at_call 58; refine (isPlan_eq gb l0_0 l0_1 _ HP.out HOK.out).mono ?_; rintro e w3 ⟨rfl, hb3⟩; have HB3 := Aside0.mk (below_step HB.out hb3); have HP3 := Aside0.mk (HP.out.below hb3); clear hb3))
    refine bodyPost_ret (results_list (rs := [.tmp 4, .tmp 5, .tmp 6]) rfl (by simp) ((.tmp (.tmp (.tmp .nil))))) rfl ?_
    exact ⟨_, rfl, Kd.R_nil _ _ _ _ _, HB3.out⟩
  · rw [hOK] at h
    have HOK := Aside0.mk hOK
    have HK := Aside0.mk ((planOK_iff l0_0 l0_1).1 hOK)
    simp only [if_true] at h
    cases hq : runGo (bindsL l0_0 l0_1) l1 (l0_1.length - 1) [0] with
    | none => rw [hq] at h; cases h
    | some q =>
    obtain ⟨o, is⟩ := q
    rw [hq] at h
    simp only [Option.some.injEq, Prod.mk.injEq] at h
    obtain ⟨rfl, rfl, rfl⟩ := h
    have HQ := Aside0.mk hq
    have hlen1 := HK.out.pos
    have hlen2 := HK.out.len
    have hl1 : l1.length ≤ 9223372036854775807 := HL.out.2.1
    clear hq
    clear hr0_0 hc0_0 hr0_1 hc0_1 hOK
    go_enter Try.func49, Try.ntmps49
    go_wp2_with (first | ((with_reducible refine gate_dst (N := 2) rfl ?_); refine box_event ?hg (N := 2) ?hd (cs := #[.slice A0_0 l0_0.length c0_0, .slice A0_1 l0_1.length c0_1]) (t := 25) ?hr ?_; (case hd => rfl); (case hg => rfl); (case hr => first | (go_simp; done) | (go_simp; rfl)); intro gb hg w2 hbox hb; have HB := Aside0.mk hb; have HP := Aside0.mk (planAt_box hbox hb HR0.out HC0.out HR1.out HC1.out); clear hbox hb hg) | (go_at_call 58; refine (isPlan_eq gb l0_0 l0_1 _ HP.out HOK.out).mono ?_; rintro e w3 ⟨rfl, hb3⟩; have HB3 := Aside0.mk (below_step HB.out hb3); have HP3 := Aside0.mk (HP.out.below hb3); clear hb3) | (go_at_call 62; refine (binds_any gb l0_0 l0_1 _ HP3.out HK.out.toEvsOK).mono ?_; rintro e w4 ⟨v4, rfl, hO⟩; have HO := Aside0.mk hO; have HB4 := Aside0.mk (below_step HB3.out hO.2); clear hO) | ((with_reducible refine gate_dst (N := 17) rfl ?_); refine Kd.R_lit (Kd.int .i64) (w0 := w4) w4.heap.size 3 ?hg (N := 17) ?hd (xs := ([0] : List Int)) (inner := [.int .i64 0]) (ok := fun _ => True) (okp := fun _ => True) ?hr (reps0 _ _ _) (fun _ hk => hk) trivial (Below.refl _ _) (Nat.le_refl _) (by simp) ?_; (case hd => rfl); (case hg => rfl); (case hr => first | (go_simp; done) | (go_simp; rfl)); intro v5 w5 hR5 hB5 _ _; have HT5 := Aside0.mk (show OutI w4 w5 v5 [0] from ⟨hR5, hB5⟩); clear hR5 hB5))
    have HE := Aside0.mk (show Below w4.heap.size w4 w5 from HT5.out.2)
    go_loopw [8, 9] (fun v8 v9 wr => ∃ ts : List Int, v9 = .int .i64 (ts.length : Int) ∧ 1 ≤ ts.length ∧ ts.length ≤ l0_1.length ∧ Aside0 (OutI w4 wr v8 ts) ∧ Aside0 (runGo (bindsL l0_0 l0_1) l1 (l0_1.length - ts.length) ts = some (o, is))) (fun v8 v9 wr => l0_1.length - (intOf v9).toNat)
    case atStart => exact ⟨[0], rfl, by simp, by simpa using hlen1, HT5, ⟨by simpa using HQ.out⟩⟩
    case round =>
      obtain ⟨ts, rfl, hts1, hts2, HT, HG⟩ := hrel
      have HPr := Aside0.mk (HP3.out.below (below_step HO.out.2 HT.out.2))
      obtain ⟨A1_, c1_, x1⟩ := ev_cell HPr.out
      have HTB := Aside0.mk HT.out.2
      have HTL : Aside0 (ts.length < 1000000) := ⟨by omega⟩
      have hG := HG.out
      by_cases hlt : ts.length < l0_1.length
      · have hltb : decide ((ts.length : Int) < (l0_1.length : Int)) = true := by simpa using hlt
        rw [show l0_1.length - ts.length = (l0_1.length - ts.length - 1) + 1 from by omega, runGo] at hG
        cases hw : dr_window.f (2 * (bindsL l0_0 l0_1).length + 3) (bindsL l0_0 l0_1) ts (ts.length : Int) with
        | none => rw [hw] at hG; cases hG
        | some q =>
        obtain ⟨lo, hi⟩ := q
        rw [hw] at hG
        have HWF := Aside0.mk hw
        clear hw HG
        simp only at hG
        by_cases hlo : hi < lo
        · have hlob : decide (hi < lo) = true := by simpa using hlo
          rw [if_pos hlo] at hG
          simp only [Option.some.injEq, Prod.mk.injEq] at hG
          obtain ⟨rfl, rfl⟩ := hG
          clear hlo
          go_wp2_with (go_at_call 80; refine (window_bs l0_0 l0_1 _ _ _ _ _ _ _ (HO.out.below HTB.out) HT.out _ _ _ HWF.out).mono ?_; rintro e w7 ⟨rfl, hb7⟩; have HB7 := Aside0.mk hb7; have HT7 := Aside0.mk (HT.out.below hb7); clear hb7)
          refine bodyPost_ret (results_list (rs := [.tmp 4, .tmp 5, .tmp 6]) rfl (by simp) ((.tmp (.tmp (.tmp .nil))))) rfl ?_
          exact ⟨_, rfl, Kd.R_nil _ _ _ _ _, below_step HB4.out (below_step HT.out.2 HB7.out)⟩
        · have hlob : decide (hi < lo) = false := by simpa using hlo
          rw [if_neg hlo] at hG
          clear hlo
          by_cases hch : ts.length < l1.length
          · have hchb : decide ((ts.length : Int) < (l1.length : Int)) = true := by simpa using hch
            rw [if_pos hch] at hG
            by_cases hk0 : wrap64 (wrap64 (hi - lo) + 1) = 0
            · rw [if_pos hk0] at hG; cases hG
            · rw [if_neg hk0] at hG
              have HGG := Aside0.mk hG
              clear hG
              obtain ⟨ad, e1, y0⟩ := Kd.at_int (Kd.C_below HL.out (below_step HB4.out HT.out.2)) (ts.length : Int) (by omega) (by omega)
              cases e1
              simp only [Int.toNat_natCast] at y0
              have HY0 := Aside0.mk y0
              clear y0
              go_wp2_with (first | (go_at_call 80; refine (window_bs l0_0 l0_1 _ _ _ _ _ _ _ (HO.out.below HTB.out) HT.out _ _ _ HWF.out).mono ?_; rintro e w7 ⟨rfl, hb7⟩; have HB7 := Aside0.mk hb7; have HT7 := Aside0.mk (HT.out.below hb7); have y0 := (hb7.cell (World.block_lt_of_cell? _ _ HY0.out)).trans HY0.out; clear hb7) | (((with_reducible refine gate_builtin (b := .append) (xs := #[.tmp 53, .tmp 57]) rfl ?_)); at_builtin; refine StopAt.mk ?_))
              unfold StopAt
              refine outI_append (w := w4) rfl (.tmp 53) (.tmp 57) rfl _ ts _ rfl (by first | (go_simp; done) | (go_simp; rfl)) HT7.out HTL.out ?_
              intro v8 w8 hT8
              have HT8 := Aside0.mk hT8
              clear hT8 y0
              go_wp2_with fail
              go_roundw
              case rel => exact ⟨ts ++ [_], by simp, by simp, by simp; omega, HT8, ⟨by have := HGG.out; simp only [List.length_append, List.length_cons, List.length_nil]; rw [show l0_1.length - (ts.length + (0 + 1)) = l0_1.length - ts.length - 1 from by omega]; exact this⟩⟩
              case measure => simp [intOf]; omega
          · have hchb : decide ((ts.length : Int) < (l1.length : Int)) = false := by simpa using hch
            rw [if_neg hch, Int.add_zero] at hG
            have HGG := Aside0.mk hG
            clear hG
            go_wp2_with (first | (go_at_call 80; refine (window_bs l0_0 l0_1 _ _ _ _ _ _ _ (HO.out.below HTB.out) HT.out _ _ _ HWF.out).mono ?_; rintro e w7 ⟨rfl, hb7⟩; have HB7 := Aside0.mk hb7; have HT7 := Aside0.mk (HT.out.below hb7); clear hb7) | (((with_reducible refine gate_builtin (b := .append) (xs := #[.tmp 53, .tmp 57]) rfl ?_)); at_builtin; refine StopAt.mk ?_))
            unfold StopAt
            refine outI_append (w := w4) rfl (.tmp 53) (.tmp 57) rfl _ ts _ rfl (by first | (go_simp; done) | (go_simp; rfl)) HT7.out HTL.out ?_
            intro v8 w8 hT8
            have HT8 := Aside0.mk hT8
            clear hT8
            go_wp2_with fail
            go_roundw
            case rel => exact ⟨ts ++ [_], by simp, by simp, by simp; omega, HT8, ⟨by have := HGG.out; simp only [List.length_append, List.length_cons, List.length_nil]; rw [show l0_1.length - (ts.length + (0 + 1)) = l0_1.length - ts.length - 1 from by omega]; exact this⟩⟩
            case measure => simp [intOf]; omega
      · have hltb : decide ((ts.length : Int) < (l0_1.length : Int)) = false := by simpa using hlt
        have hte : ts.length = l0_1.length := by omega
        rw [hte, Nat.sub_self, runGo] at hG
        simp only [Option.some.injEq, Prod.mk.injEq] at hG
        obtain ⟨rfl, rfl⟩ := hG
        go_wp2_with fail
        refine bodyPost_ret (results_list (rs := [.tmp 4, .tmp 5, .tmp 6]) rfl (by simp) ((.tmp (.tmp (.tmp .nil))))) rfl ?_
        exact ⟨_, rfl, Kd.R_lower HT.out.1 HB4.out.size, below_step HB4.out HT.out.2⟩
/-! ### Circle -/
def dr_Circle.f (R : List (S42)) (E : List (S80)) : Option (List Int × Bool × Int) := if planOK R E = true then (match circleF (bindsL R E) E.length with | none => none | some q => some (q.1, q.2, 0)) else some ([], false, 311)
set_option maxHeartbeats 3200000 in
set_option maxRecDepth 100000 in
theorem dr_Circle.calls (A0_0 : Option Addr) (c0_0 : Nat) (l0_0 : List (S42)) (A0_1 : Option Addr) (c0_1 : Nat) (l0_1 : List (S80)) (r1 : List Int) (r2 : Bool) (r3 : Int) (w : World) (hr0_0 : Kd.C k42 w A0_0 l0_0.length l0_0) (hc0_0 : l0_0.length ≤ c0_0) (hr0_1 : Kd.C k80 w A0_1 l0_1.length l0_1) (hc0_1 : l0_1.length ≤ c0_1) (h : dr_Circle.f l0_0 l0_1 = some (r1, r2, r3)) :
    Calls Try.prog 56 #[.agg #[.slice A0_0 l0_0.length c0_0, .slice A0_1 l0_1.length c0_1]] w fun e w' => ∃ v0_ : Value, e = .returned (.tuple #[v0_, .bool r2, .int .i64 r3]) ∧ Kd.R (Kd.int .i64) 3 w' w.heap.size (fun _ => True) v0_ r1 ∧ Below w.heap.size w w' := by
  have HR0 := Aside0.mk hr0_0
  have HC0 := Aside0.mk hc0_0
  have HR1 := Aside0.mk hr0_1
  have HC1 := Aside0.mk hc0_1
  unfold dr_Circle.f at h
  cases hOK : planOK l0_0 l0_1
  · rw [hOK] at h
    have HOK := Aside0.mk hOK
    simp only [Bool.false_eq_true, if_false, Option.some.injEq, Prod.mk.injEq] at h
    obtain ⟨rfl, rfl, rfl⟩ := h
    clear hr0_0 hc0_0 hr0_1 hc0_1 hOK
    go_enter Try.func56, Try.ntmps56
    go_wp2_with (first | ((with_reducible refine gate_dst (N := 1) rfl ?_); refine box_event ?hg (N := 1) ?hd (cs := #[.slice A0_0 l0_0.length c0_0, .slice A0_1 l0_1.length c0_1]) (t := 25) ?hr ?_; (case hd => rfl); (case hg => rfl); (case hr => first | (go_simp; done) | (go_simp; rfl)); intro gb hg w2 hbox hb; have HB := Aside0.mk hb; have HP := Aside0.mk (planAt_box hbox hb HR0.out HC0.out HR1.out HC1.out); clear hbox hb hg) | (go_at_call 58; refine (isPlan_eq gb l0_0 l0_1 _ HP.out HOK.out).mono ?_; rintro e w3 ⟨rfl, hb3⟩; have HB3 := Aside0.mk (below_step HB.out hb3); have HP3 := Aside0.mk (HP.out.below hb3); clear hb3))
    refine bodyPost_ret (results_list (rs := [.tmp 2, .tmp 3, .tmp 4]) rfl (by simp) ((.tmp (.tmp (.tmp .nil))))) rfl ?_
    exact ⟨_, rfl, Kd.R_nil _ _ _ _ _, HB3.out⟩
  · rw [hOK] at h
    have HOK := Aside0.mk hOK
    have HK := Aside0.mk ((planOK_iff l0_0 l0_1).1 hOK)
    simp only [if_true] at h
    cases hq : circleF (bindsL l0_0 l0_1) l0_1.length with
    | none => rw [hq] at h; cases h
    | some q =>
    obtain ⟨o, is⟩ := q
    rw [hq] at h
    simp only [Option.some.injEq, Prod.mk.injEq] at h
    obtain ⟨rfl, rfl, rfl⟩ := h
    have HQ := Aside0.mk hq
    clear hq
    clear hr0_0 hc0_0 hr0_1 hc0_1 hOK
    go_enter Try.func56, Try.ntmps56
    go_wp2_with (first | ((with_reducible refine gate_dst (N := 1) rfl ?_); refine box_event ?hg (N := 1) ?hd (cs := #[.slice A0_0 l0_0.length c0_0, .slice A0_1 l0_1.length c0_1]) (t := 25) ?hr ?_; (case hd => rfl); (case hg => rfl); (case hr => first | (go_simp; done) | (go_simp; rfl)); intro gb hg w2 hbox hb; have HB := Aside0.mk hb; have HP := Aside0.mk (planAt_box hbox hb HR0.out HC0.out HR1.out HC1.out); clear hbox hb hg) | (go_at_call 58; refine (isPlan_eq gb l0_0 l0_1 _ HP.out HOK.out).mono ?_; rintro e w3 ⟨rfl, hb3⟩; have HB3 := Aside0.mk (below_step HB.out hb3); have HP3 := Aside0.mk (HP.out.below hb3); clear hb3))
    have hS0 := ev_cell HP3.out
    obtain ⟨A1_, c1_, x1⟩ := hS0
    have HPd := Aside0.mk (HP3.out.below (below_drew1 (Below.refl w3.heap.size w3)))
    have hS0 : w3.drew.cell? ⟨gb, 1, none⟩ = some (.slice A1_ l0_1.length c1_) := x1
    have HBd := Aside0.mk (below_drew1 HB3.out)
    clear x1
    go_region_held3 (fun w' => w'.cell? ⟨gb, 1, none⟩ = some (.slice A1_ l0_1.length c1_)) ((first | exact hS0 | exact hS1 | exact hS2))
      ((first
      | (go_at_call 62; refine (binds_any gb l0_0 l0_1 _ HPd.out HK.out.toEvsOK).mono ?_; rintro e w4 ⟨v4, rfl, hO⟩; have HO := Aside0.mk hO; have hS1 : w4.cell? ⟨gb, 1, none⟩ = some (.slice A1_ l0_1.length c1_) := (hO.2.cell (World.block_lt_of_cell? _ _ hS0)).trans hS0; have HB4 := Aside0.mk (below_step HBd.out hO.2); clear hO)
      | (go_at_call 81; refine (circle_bs l0_0 l0_1 _ _ _ HO.out HK.out o is HQ.out).mono ?_; rintro e w5 ⟨v5, rfl, hO5⟩; have HO5 := Aside0.mk hO5; have HB5 := Aside0.mk (below_step HB4.out hO5.2); have hS2 : w5.cell? ⟨gb, 1, none⟩ = some (.slice A1_ l0_1.length c1_) := (hO5.2.cell (World.block_lt_of_cell? _ _ hS1)).trans hS1; clear hO5)))
    go_wp2_with fail
    refine bodyPost_ret (results_list (rs := [.tmp 2, .tmp 3, .tmp 4]) rfl (by simp) ((.tmp (.tmp (.tmp .nil))))) rfl ?_
    exact ⟨_, rfl, Kd.R_lower HO5.out.1 HB4.out.size, HB5.out⟩
/-! ### CheckCircle -/
def dr_CheckCircle.f (R : List (S42)) (E : List (S80)) (l1 : List Int) : Option (Int) := some (if planOK R E = true then (if (chainF (bindsL R E) l1).2.2.2 = true ∧ (chainF (bindsL R E) l1).1 = (chainF (bindsL R E) l1).2.1 ∧ (chainF (bindsL R E) l1).2.2.1 < 0 then 0 else 313) else 311)
set_option maxHeartbeats 3200000 in
set_option maxRecDepth 100000 in
theorem dr_CheckCircle.calls (A0_0 : Option Addr) (c0_0 : Nat) (l0_0 : List (S42)) (A0_1 : Option Addr) (c0_1 : Nat) (l0_1 : List (S80)) (A1 : Option Addr) (c1 : Nat) (l1 : List Int) (r : Int) (w : World) (hr0_0 : Kd.C k42 w A0_0 l0_0.length l0_0) (hc0_0 : l0_0.length ≤ c0_0) (hr0_1 : Kd.C k80 w A0_1 l0_1.length l0_1) (hc0_1 : l0_1.length ≤ c0_1) (hr1 : Kd.C (Kd.int .i64) w A1 l1.length l1) (hc1 : l1.length ≤ c1) (h : dr_CheckCircle.f l0_0 l0_1 l1 = some r) :
    Calls Try.prog 54 #[.agg #[.slice A0_0 l0_0.length c0_0, .slice A0_1 l0_1.length c0_1], .slice A1 l1.length c1] w fun e w' => e = .returned (.int .i64 r) ∧ Below w.heap.size w w' := by
  have HR0 := Aside0.mk hr0_0
  have HC0 := Aside0.mk hc0_0
  have HR1 := Aside0.mk hr0_1
  have HC1 := Aside0.mk hc0_1
  have HL := Aside0.mk hr1
  clear hr1 hc1
  unfold dr_CheckCircle.f at h
  cases hOK : planOK l0_0 l0_1
  · rw [hOK] at h
    have HOK := Aside0.mk hOK
    simp only [Bool.false_eq_true, if_false, Option.some.injEq, Prod.mk.injEq] at h
    subst h
    clear hr0_0 hc0_0 hr0_1 hc0_1 hOK
    go_enter Try.func54, Try.ntmps54
    go_wp2_with (first | ((with_reducible refine gate_dst (N := 2) rfl ?_); refine box_event ?hg (N := 2) ?hd (cs := #[.slice A0_0 l0_0.length c0_0, .slice A0_1 l0_1.length c0_1]) (t := 25) ?hr ?_; (case hd => rfl); (case hg => rfl); (case hr => first | (go_simp; done) | (go_simp; rfl)); intro gb hg w2 hbox hb; have HB := Aside0.mk hb; have HP := Aside0.mk (planAt_box hbox hb HR0.out HC0.out HR1.out HC1.out); clear hbox hb hg) | (go_at_call 58; refine (isPlan_eq gb l0_0 l0_1 _ HP.out HOK.out).mono ?_; rintro e w3 ⟨rfl, hb3⟩; have HB3 := Aside0.mk (below_step HB.out hb3); have HP3 := Aside0.mk (HP.out.below hb3); clear hb3))
    go_ret
    exact ⟨rfl, HB3.out⟩
  · rw [hOK] at h
    have HOK := Aside0.mk hOK
    have HK := Aside0.mk ((planOK_iff l0_0 l0_1).1 hOK)
    generalize hch : chainF (bindsL l0_0 l0_1) l1 = q at h
    obtain ⟨a, b, s, ok⟩ := q
    have HCH := Aside0.mk hch
    clear hch
    simp only [if_true, Option.some.injEq] at h
    cases ok
    · rw [if_neg (by simp)] at h
      subst h
      clear hr0_0 hc0_0 hr0_1 hc0_1 hOK
      go_enter Try.func54, Try.ntmps54
      go_wp2_with (first | ((with_reducible refine gate_dst (N := 2) rfl ?_); refine box_event ?hg (N := 2) ?hd (cs := #[.slice A0_0 l0_0.length c0_0, .slice A0_1 l0_1.length c0_1]) (t := 25) ?hr ?_; (case hd => rfl); (case hg => rfl); (case hr => first | (go_simp; done) | (go_simp; rfl)); intro gb hg w2 hbox hb; have HB := Aside0.mk hb; have HP := Aside0.mk (planAt_box hbox hb HR0.out HC0.out HR1.out HC1.out); clear hbox hb hg) | (go_at_call 58; refine (isPlan_eq gb l0_0 l0_1 _ HP.out HOK.out).mono ?_; rintro e w3 ⟨rfl, hb3⟩; have HB3 := Aside0.mk (below_step HB.out hb3); have HP3 := Aside0.mk (HP.out.below hb3); clear hb3) | (go_at_call 62; refine (binds_any gb l0_0 l0_1 _ HP3.out HK.out.toEvsOK).mono ?_; rintro e w4 ⟨v4, rfl, hO⟩; have HO := Aside0.mk hO; have HB4 := Aside0.mk (below_step HB3.out hO.2); clear hO) | (go_at_call 66; refine (chain_bs l0_0 l0_1 _ _ _ HO.out A1 c1 l1 (Kd.C_below HL.out HB4.out) _ _ _ _ HCH.out).mono ?_; rintro e w5 ⟨rfl, hb5⟩; have HB5 := Aside0.mk (below_step HB4.out hb5); clear hb5))
      go_ret
      exact ⟨rfl, HB5.out⟩
    by_cases hab : a = b
    · have n1 : (a != b) = false := by simpa using hab
      by_cases hs : s < 0
      · have n2 : decide (0 ≤ s) = false := by simpa using hs
        rw [if_pos ⟨rfl, hab, hs⟩] at h
        subst h
        clear hab hs
        clear hr0_0 hc0_0 hr0_1 hc0_1 hOK
        go_enter Try.func54, Try.ntmps54
        go_wp2_with (first | ((with_reducible refine gate_dst (N := 2) rfl ?_); refine box_event ?hg (N := 2) ?hd (cs := #[.slice A0_0 l0_0.length c0_0, .slice A0_1 l0_1.length c0_1]) (t := 25) ?hr ?_; (case hd => rfl); (case hg => rfl); (case hr => first | (go_simp; done) | (go_simp; rfl)); intro gb hg w2 hbox hb; have HB := Aside0.mk hb; have HP := Aside0.mk (planAt_box hbox hb HR0.out HC0.out HR1.out HC1.out); clear hbox hb hg) | (go_at_call 58; refine (isPlan_eq gb l0_0 l0_1 _ HP.out HOK.out).mono ?_; rintro e w3 ⟨rfl, hb3⟩; have HB3 := Aside0.mk (below_step HB.out hb3); have HP3 := Aside0.mk (HP.out.below hb3); clear hb3) | (go_at_call 62; refine (binds_any gb l0_0 l0_1 _ HP3.out HK.out.toEvsOK).mono ?_; rintro e w4 ⟨v4, rfl, hO⟩; have HO := Aside0.mk hO; have HB4 := Aside0.mk (below_step HB3.out hO.2); clear hO) | (go_at_call 66; refine (chain_bs l0_0 l0_1 _ _ _ HO.out A1 c1 l1 (Kd.C_below HL.out HB4.out) _ _ _ _ HCH.out).mono ?_; rintro e w5 ⟨rfl, hb5⟩; have HB5 := Aside0.mk (below_step HB4.out hb5); clear hb5))
        go_ret
        exact ⟨rfl, HB5.out⟩
      · have n2 : decide (0 ≤ s) = true := by simpa using hs
        rw [if_neg (fun hh => hs hh.2.2)] at h
        subst h
        clear hab hs
        clear hr0_0 hc0_0 hr0_1 hc0_1 hOK
        go_enter Try.func54, Try.ntmps54
        go_wp2_with (first | ((with_reducible refine gate_dst (N := 2) rfl ?_); refine box_event ?hg (N := 2) ?hd (cs := #[.slice A0_0 l0_0.length c0_0, .slice A0_1 l0_1.length c0_1]) (t := 25) ?hr ?_; (case hd => rfl); (case hg => rfl); (case hr => first | (go_simp; done) | (go_simp; rfl)); intro gb hg w2 hbox hb; have HB := Aside0.mk hb; have HP := Aside0.mk (planAt_box hbox hb HR0.out HC0.out HR1.out HC1.out); clear hbox hb hg) | (go_at_call 58; refine (isPlan_eq gb l0_0 l0_1 _ HP.out HOK.out).mono ?_; rintro e w3 ⟨rfl, hb3⟩; have HB3 := Aside0.mk (below_step HB.out hb3); have HP3 := Aside0.mk (HP.out.below hb3); clear hb3) | (go_at_call 62; refine (binds_any gb l0_0 l0_1 _ HP3.out HK.out.toEvsOK).mono ?_; rintro e w4 ⟨v4, rfl, hO⟩; have HO := Aside0.mk hO; have HB4 := Aside0.mk (below_step HB3.out hO.2); clear hO) | (go_at_call 66; refine (chain_bs l0_0 l0_1 _ _ _ HO.out A1 c1 l1 (Kd.C_below HL.out HB4.out) _ _ _ _ HCH.out).mono ?_; rintro e w5 ⟨rfl, hb5⟩; have HB5 := Aside0.mk (below_step HB4.out hb5); clear hb5))
        go_ret
        exact ⟨rfl, HB5.out⟩
    · have n1 : (a != b) = true := by simpa using hab
      rw [if_neg (fun hh => hab hh.2.1)] at h
      subst h
      clear hab
      clear hr0_0 hc0_0 hr0_1 hc0_1 hOK
      go_enter Try.func54, Try.ntmps54
      go_wp2_with (first | ((with_reducible refine gate_dst (N := 2) rfl ?_); refine box_event ?hg (N := 2) ?hd (cs := #[.slice A0_0 l0_0.length c0_0, .slice A0_1 l0_1.length c0_1]) (t := 25) ?hr ?_; (case hd => rfl); (case hg => rfl); (case hr => first | (go_simp; done) | (go_simp; rfl)); intro gb hg w2 hbox hb; have HB := Aside0.mk hb; have HP := Aside0.mk (planAt_box hbox hb HR0.out HC0.out HR1.out HC1.out); clear hbox hb hg) | (go_at_call 58; refine (isPlan_eq gb l0_0 l0_1 _ HP.out HOK.out).mono ?_; rintro e w3 ⟨rfl, hb3⟩; have HB3 := Aside0.mk (below_step HB.out hb3); have HP3 := Aside0.mk (HP.out.below hb3); clear hb3) | (go_at_call 62; refine (binds_any gb l0_0 l0_1 _ HP3.out HK.out.toEvsOK).mono ?_; rintro e w4 ⟨v4, rfl, hO⟩; have HO := Aside0.mk hO; have HB4 := Aside0.mk (below_step HB3.out hO.2); clear hO) | (go_at_call 66; refine (chain_bs l0_0 l0_1 _ _ _ HO.out A1 c1 l1 (Kd.C_below HL.out HB4.out) _ _ _ _ HCH.out).mono ?_; rintro e w5 ⟨rfl, hb5⟩; have HB5 := Aside0.mk (below_step HB4.out hb5); clear hb5))
      go_ret
      exact ⟨rfl, HB5.out⟩
/-! ### Earliest -/
def dr_Earliest.f (R : List (S42)) (E : List (S80)) : Option (List Int × Bool × Int) := if planOK R E = true then (match earliestF (bindsL R E) E.length with | none => none | some q => some (q.1, q.2, 0)) else some ([], false, 311)
set_option maxHeartbeats 3200000 in
set_option maxRecDepth 100000 in
theorem dr_Earliest.calls (A0_0 : Option Addr) (c0_0 : Nat) (l0_0 : List (S42)) (A0_1 : Option Addr) (c0_1 : Nat) (l0_1 : List (S80)) (r1 : List Int) (r2 : Bool) (r3 : Int) (w : World) (hr0_0 : Kd.C k42 w A0_0 l0_0.length l0_0) (hc0_0 : l0_0.length ≤ c0_0) (hr0_1 : Kd.C k80 w A0_1 l0_1.length l0_1) (hc0_1 : l0_1.length ≤ c0_1) (h : dr_Earliest.f l0_0 l0_1 = some (r1, r2, r3)) :
    Calls Try.prog 29 #[.agg #[.slice A0_0 l0_0.length c0_0, .slice A0_1 l0_1.length c0_1]] w fun e w' => ∃ v0_ : Value, e = .returned (.tuple #[v0_, .bool r2, .int .i64 r3]) ∧ Kd.R (Kd.int .i64) 3 w' w.heap.size (fun _ => True) v0_ r1 ∧ Below w.heap.size w w' := by
  have HR0 := Aside0.mk hr0_0
  have HC0 := Aside0.mk hc0_0
  have HR1 := Aside0.mk hr0_1
  have HC1 := Aside0.mk hc0_1
  unfold dr_Earliest.f at h
  cases hOK : planOK l0_0 l0_1
  · rw [hOK] at h
    have HOK := Aside0.mk hOK
    simp only [Bool.false_eq_true, if_false, Option.some.injEq, Prod.mk.injEq] at h
    obtain ⟨rfl, rfl, rfl⟩ := h
    clear hr0_0 hc0_0 hr0_1 hc0_1 hOK
    go_enter Try.func29, Try.ntmps29
    go_wp2_with (first | ((with_reducible refine gate_dst (N := 1) rfl ?_); refine box_event ?hg (N := 1) ?hd (cs := #[.slice A0_0 l0_0.length c0_0, .slice A0_1 l0_1.length c0_1]) (t := 25) ?hr ?_; (case hd => rfl); (case hg => rfl); (case hr => first | (go_simp; done) | (go_simp; rfl)); intro gb hg w2 hbox hb; have HB := Aside0.mk hb; have HP := Aside0.mk (planAt_box hbox hb HR0.out HC0.out HR1.out HC1.out); clear hbox hb hg) | (go_at_call 58; refine (isPlan_eq gb l0_0 l0_1 _ HP.out HOK.out).mono ?_; rintro e w3 ⟨rfl, hb3⟩; have HB3 := Aside0.mk (below_step HB.out hb3); have HP3 := Aside0.mk (HP.out.below hb3); clear hb3))
    refine bodyPost_ret (results_list (rs := [.tmp 2, .tmp 3, .tmp 4]) rfl (by simp) ((.tmp (.tmp (.tmp .nil))))) rfl ?_
    exact ⟨_, rfl, Kd.R_nil _ _ _ _ _, HB3.out⟩
  · rw [hOK] at h
    have HOK := Aside0.mk hOK
    have HK := Aside0.mk ((planOK_iff l0_0 l0_1).1 hOK)
    simp only [if_true] at h
    cases hq : earliestF (bindsL l0_0 l0_1) l0_1.length with
    | none => rw [hq] at h; cases h
    | some q =>
    obtain ⟨o, is⟩ := q
    rw [hq] at h
    simp only [Option.some.injEq, Prod.mk.injEq] at h
    obtain ⟨rfl, rfl, rfl⟩ := h
    have HQ := Aside0.mk hq
    clear hq
    clear hr0_0 hc0_0 hr0_1 hc0_1 hOK
    go_enter Try.func29, Try.ntmps29
    go_wp2_with (first | ((with_reducible refine gate_dst (N := 1) rfl ?_); refine box_event ?hg (N := 1) ?hd (cs := #[.slice A0_0 l0_0.length c0_0, .slice A0_1 l0_1.length c0_1]) (t := 25) ?hr ?_; (case hd => rfl); (case hg => rfl); (case hr => first | (go_simp; done) | (go_simp; rfl)); intro gb hg w2 hbox hb; have HB := Aside0.mk hb; have HP := Aside0.mk (planAt_box hbox hb HR0.out HC0.out HR1.out HC1.out); clear hbox hb hg) | (go_at_call 58; refine (isPlan_eq gb l0_0 l0_1 _ HP.out HOK.out).mono ?_; rintro e w3 ⟨rfl, hb3⟩; have HB3 := Aside0.mk (below_step HB.out hb3); have HP3 := Aside0.mk (HP.out.below hb3); clear hb3))
    have hS0 := ev_cell HP3.out
    obtain ⟨A1_, c1_, x1⟩ := hS0
    have HPd := Aside0.mk (HP3.out.below (below_drew1 (Below.refl w3.heap.size w3)))
    have hS0 : w3.drew.cell? ⟨gb, 1, none⟩ = some (.slice A1_ l0_1.length c1_) := x1
    have HBd := Aside0.mk (below_drew1 HB3.out)
    clear x1
    go_region_held3 (fun w' => w'.cell? ⟨gb, 1, none⟩ = some (.slice A1_ l0_1.length c1_)) ((first | exact hS0 | exact hS1 | exact hS2))
      ((first
      | (go_at_call 62; refine (binds_any gb l0_0 l0_1 _ HPd.out HK.out.toEvsOK).mono ?_; rintro e w4 ⟨v4, rfl, hO⟩; have HO := Aside0.mk hO; have hS1 : w4.cell? ⟨gb, 1, none⟩ = some (.slice A1_ l0_1.length c1_) := (hO.2.cell (World.block_lt_of_cell? _ _ hS0)).trans hS0; have HB4 := Aside0.mk (below_step HBd.out hO.2); clear hO)
      | (go_at_call 75; refine (earliest_plan l0_0 l0_1 _ _ _ HO.out HK.out o is HQ.out).mono ?_; rintro e w5 ⟨v5, rfl, hO5⟩; have HO5 := Aside0.mk hO5; have HB5 := Aside0.mk (below_step HB4.out hO5.2); have hS2 : w5.cell? ⟨gb, 1, none⟩ = some (.slice A1_ l0_1.length c1_) := (hO5.2.cell (World.block_lt_of_cell? _ _ hS1)).trans hS1; clear hO5)))
    go_wp2_with fail
    refine bodyPost_ret (results_list (rs := [.tmp 2, .tmp 3, .tmp 4]) rfl (by simp) ((.tmp (.tmp (.tmp .nil))))) rfl ?_
    exact ⟨_, rfl, Kd.R_lower HO5.out.1 HB4.out.size, HB5.out⟩
/-! ### Tight -/
def dr_Tight.f (R : List (S42)) (E : List (S80)) (a1 : Int) (a2 : Int) : Option (Int × List Int × Bool × Int) := if planOK R E = true then (if betweenB a1 0 ((E.length : Int) - 1) = true ∧ betweenB a2 0 ((E.length : Int) - 1) = true then (match circleF (bindsL R E) E.length with | none => none | some (_, true) => some (0, [], false, 0) | some (_, false) => (match tightF (bindsL R E) E.length a1 a2 with | none => none | some q => some (q.1, q.2.1, q.2.2, 0))) else some (0, [], false, 1)) else some (0, [], false, 311)
set_option maxHeartbeats 3200000 in
set_option maxRecDepth 100000 in
theorem dr_Tight.calls (A0_0 : Option Addr) (c0_0 : Nat) (l0_0 : List (S42)) (A0_1 : Option Addr) (c0_1 : Nat) (l0_1 : List (S80)) (a1 : Int) (a2 : Int) (r1 : Int) (r2 : List Int) (r3 : Bool) (r4 : Int) (w : World) (hr0_0 : Kd.C k42 w A0_0 l0_0.length l0_0) (hc0_0 : l0_0.length ≤ c0_0) (hr0_1 : Kd.C k80 w A0_1 l0_1.length l0_1) (hc0_1 : l0_1.length ≤ c0_1) (h : dr_Tight.f l0_0 l0_1 a1 a2 = some (r1, r2, r3, r4)) :
    Calls Try.prog 17 #[.agg #[.slice A0_0 l0_0.length c0_0, .slice A0_1 l0_1.length c0_1], .int .i64 a1, .int .i64 a2] w fun e w' => ∃ v1_ : Value, e = .returned (.tuple #[.int .i64 r1, v1_, .bool r3, .int .i64 r4]) ∧ Kd.R (Kd.int .i64) 3 w' w.heap.size (fun _ => True) v1_ r2 ∧ Below w.heap.size w w' := by
  have HR0 := Aside0.mk hr0_0
  have HC0 := Aside0.mk hc0_0
  have HR1 := Aside0.mk hr0_1
  have HC1 := Aside0.mk hc0_1
  unfold dr_Tight.f at h
  cases hOK : planOK l0_0 l0_1
  · rw [hOK] at h
    have HOK := Aside0.mk hOK
    simp only [Bool.false_eq_true, if_false, Option.some.injEq, Prod.mk.injEq] at h
    obtain ⟨rfl, rfl, rfl, rfl⟩ := h
    clear hr0_0 hc0_0 hr0_1 hc0_1 hOK
    go_enter Try.func17, Try.ntmps17
    go_wp2_with (first | ((with_reducible refine gate_dst (N := 3) rfl ?_); refine box_event ?hg (N := 3) ?hd (cs := #[.slice A0_0 l0_0.length c0_0, .slice A0_1 l0_1.length c0_1]) (t := 25) ?hr ?_; (case hd => rfl); (case hg => rfl); (case hr => first | (go_simp; done) | (go_simp; rfl)); intro gb hg w2 hbox hb; have HB := Aside0.mk hb; have HP := Aside0.mk (planAt_box hbox hb HR0.out HC0.out HR1.out HC1.out); clear hbox hb hg) | (go_at_call 58; refine (isPlan_eq gb l0_0 l0_1 _ HP.out HOK.out).mono ?_; rintro e w3 ⟨rfl, hb3⟩; have HB3 := Aside0.mk (below_step HB.out hb3); have HP3 := Aside0.mk (HP.out.below hb3); clear hb3))
    refine bodyPost_ret (results_list (rs := [.tmp 6, .tmp 7, .tmp 8, .tmp 9]) rfl (by simp) ((.tmp (.tmp (.tmp (.tmp .nil)))))) rfl ?_
    exact ⟨_, rfl, Kd.R_nil _ _ _ _ _, HB3.out⟩
  · rw [hOK] at h
    have HOK := Aside0.mk hOK
    have HK := Aside0.mk ((planOK_iff l0_0 l0_1).1 hOK)
    simp only [if_true] at h
    have hlen1 := HK.out.pos
    have hlen2 := HK.out.len
    obtain ⟨A1x, c1x, _⟩ : ∃ (a : Nat) (b : Nat), True := ⟨0, 0, trivial⟩
    cases h1 : betweenB a1 0 ((l0_1.length : Int) - 1)
    · have H1 := Aside0.mk h1
      rw [if_neg (by rw [h1]; simp)] at h
      simp only [Option.some.injEq, Prod.mk.injEq] at h
      obtain ⟨rfl, rfl, rfl, rfl⟩ := h
      clear h1
      clear hr0_0 hc0_0 hr0_1 hc0_1 hOK
      go_enter Try.func17, Try.ntmps17
      go_wp2_with (first | ((with_reducible refine gate_dst (N := 3) rfl ?_); refine box_event ?hg (N := 3) ?hd (cs := #[.slice A0_0 l0_0.length c0_0, .slice A0_1 l0_1.length c0_1]) (t := 25) ?hr ?_; (case hd => rfl); (case hg => rfl); (case hr => first | (go_simp; done) | (go_simp; rfl)); intro gb hg w2 hbox hb; have HB := Aside0.mk hb; have HP := Aside0.mk (planAt_box hbox hb HR0.out HC0.out HR1.out HC1.out); clear hbox hb hg) | (go_at_call 58; refine (isPlan_eq gb l0_0 l0_1 _ HP.out HOK.out).mono ?_; rintro e w3 ⟨rfl, hb3⟩; have HB3 := Aside0.mk (below_step HB.out hb3); have HP3 := Aside0.mk (HP.out.below hb3); obtain ⟨A1_, c1_, x1⟩ := ev_cell HP3.out; clear hb3) | (go_at_call_of 59 a1; refine (between_eq' H1.out _).mono ?_; rintro e w' ⟨rfl, rfl⟩))
      refine bodyPost_ret (results_list (rs := [.tmp 6, .tmp 7, .tmp 8, .tmp 9]) rfl (by simp) ((.tmp (.tmp (.tmp (.tmp .nil)))))) rfl ?_
      exact ⟨_, rfl, Kd.R_nil _ _ _ _ _, HB3.out⟩
    cases h2 : betweenB a2 0 ((l0_1.length : Int) - 1)
    · have H1 := Aside0.mk h1
      have H2 := Aside0.mk h2
      rw [if_neg (by rw [h2]; simp)] at h
      simp only [Option.some.injEq, Prod.mk.injEq] at h
      obtain ⟨rfl, rfl, rfl, rfl⟩ := h
      clear h1 h2
      clear hr0_0 hc0_0 hr0_1 hc0_1 hOK
      go_enter Try.func17, Try.ntmps17
      go_wp2_with (first | ((with_reducible refine gate_dst (N := 3) rfl ?_); refine box_event ?hg (N := 3) ?hd (cs := #[.slice A0_0 l0_0.length c0_0, .slice A0_1 l0_1.length c0_1]) (t := 25) ?hr ?_; (case hd => rfl); (case hg => rfl); (case hr => first | (go_simp; done) | (go_simp; rfl)); intro gb hg w2 hbox hb; have HB := Aside0.mk hb; have HP := Aside0.mk (planAt_box hbox hb HR0.out HC0.out HR1.out HC1.out); clear hbox hb hg) | (go_at_call 58; refine (isPlan_eq gb l0_0 l0_1 _ HP.out HOK.out).mono ?_; rintro e w3 ⟨rfl, hb3⟩; have HB3 := Aside0.mk (below_step HB.out hb3); have HP3 := Aside0.mk (HP.out.below hb3); obtain ⟨A1_, c1_, x1⟩ := ev_cell HP3.out; clear hb3) | (go_at_call_of 59 a1; refine (between_eq' H1.out _).mono ?_; rintro e w' ⟨rfl, rfl⟩) | (go_at_call_of 59 a2; refine (between_eq' H2.out _).mono ?_; rintro e w' ⟨rfl, rfl⟩))
      refine bodyPost_ret (results_list (rs := [.tmp 6, .tmp 7, .tmp 8, .tmp 9]) rfl (by simp) ((.tmp (.tmp (.tmp (.tmp .nil)))))) rfl ?_
      exact ⟨_, rfl, Kd.R_nil _ _ _ _ _, HB3.out⟩
    have H1 := Aside0.mk h1
    have H2 := Aside0.mk h2
    rw [if_pos ⟨h1, h2⟩] at h
    clear h1 h2
    cases hci : circleF (bindsL l0_0 l0_1) l0_1.length with
    | none => rw [hci] at h; cases h
    | some cq =>
    obtain ⟨co, ci⟩ := cq
    rw [hci] at h
    have HCI := Aside0.mk hci
    clear hci
    cases ci
    · simp only at h
      cases hq : tightF (bindsL l0_0 l0_1) l0_1.length a1 a2 with
      | none => rw [hq] at h; cases h
      | some q =>
      obtain ⟨q1, q2, q3⟩ := q
      rw [hq] at h
      have HQ := Aside0.mk hq
      clear hq
      simp only [Option.some.injEq, Prod.mk.injEq] at h
      obtain ⟨rfl, rfl, rfl, rfl⟩ := h
      clear hr0_0 hc0_0 hr0_1 hc0_1 hOK
      go_enter Try.func17, Try.ntmps17
      go_wp2_with (first | ((with_reducible refine gate_dst (N := 3) rfl ?_); refine box_event ?hg (N := 3) ?hd (cs := #[.slice A0_0 l0_0.length c0_0, .slice A0_1 l0_1.length c0_1]) (t := 25) ?hr ?_; (case hd => rfl); (case hg => rfl); (case hr => first | (go_simp; done) | (go_simp; rfl)); intro gb hg w2 hbox hb; have HB := Aside0.mk hb; have HP := Aside0.mk (planAt_box hbox hb HR0.out HC0.out HR1.out HC1.out); clear hbox hb hg) | (go_at_call 58; refine (isPlan_eq gb l0_0 l0_1 _ HP.out HOK.out).mono ?_; rintro e w3 ⟨rfl, hb3⟩; have HB3 := Aside0.mk (below_step HB.out hb3); have HP3 := Aside0.mk (HP.out.below hb3); obtain ⟨A1_, c1_, x1⟩ := ev_cell HP3.out; clear hb3) | (go_at_call_of 59 a1; refine (between_eq' H1.out _).mono ?_; rintro e w' ⟨rfl, rfl⟩) | (go_at_call_of 59 a2; refine (between_eq' H2.out _).mono ?_; rintro e w' ⟨rfl, rfl⟩) | (go_at_call 60; refine (possible_any gb l0_0 l0_1 _ HP3.out HK.out co _ HCI.out).mono ?_; rintro e w4p ⟨rfl, hb4⟩; have HBp := Aside0.mk (below_step HB3.out hb4); have HPp := Aside0.mk (HP3.out.below hb4); clear hb4))
      clear x1
      have hS0 := ev_cell HPp.out
      obtain ⟨A2_, c2_, x1⟩ := hS0
      have HPd := Aside0.mk (HPp.out.below (below_drew1 (Below.refl w4p.heap.size w4p)))
      have hS0 : w4p.drew.cell? ⟨gb, 1, none⟩ = some (.slice A2_ l0_1.length c2_) := x1
      have HBd := Aside0.mk (below_drew1 HBp.out)
      clear x1
      go_region_held3 (fun w' => w'.cell? ⟨gb, 1, none⟩ = some (.slice A2_ l0_1.length c2_)) ((first | exact hS0 | exact hS1 | exact hS2))
        ((first
        | (go_at_call 62; refine (binds_any gb l0_0 l0_1 _ HPd.out HK.out.toEvsOK).mono ?_; rintro e w4 ⟨v4, rfl, hO⟩; have HO := Aside0.mk hO; have hS1 : w4.cell? ⟨gb, 1, none⟩ = some (.slice A2_ l0_1.length c2_) := (hO.2.cell (World.block_lt_of_cell? _ _ hS0)).trans hS0; have HB4 := Aside0.mk (below_step HBd.out hO.2); clear hO)
        | (go_at_call 61; refine (tight_bs l0_0 l0_1 _ _ _ HO.out HK.out a1 a2 (betw H1.out) (betw H2.out) q1 q2 q3 HQ.out).mono ?_; rintro e w5 ⟨v5, rfl, hO5⟩; have HO5 := Aside0.mk hO5; have HB5 := Aside0.mk (below_step HB4.out hO5.2); have hS2 : w5.cell? ⟨gb, 1, none⟩ = some (.slice A2_ l0_1.length c2_) := (hO5.2.cell (World.block_lt_of_cell? _ _ hS1)).trans hS1; clear hO5)))
      go_wp2_with fail
      refine bodyPost_ret (results_list (rs := [.tmp 6, .tmp 7, .tmp 8, .tmp 9]) rfl (by simp) ((.tmp (.tmp (.tmp (.tmp .nil)))))) rfl ?_
      exact ⟨_, rfl, Kd.R_lower HO5.out.1 HB4.out.size, HB5.out⟩
    · simp only [Option.some.injEq, Prod.mk.injEq] at h
      obtain ⟨rfl, rfl, rfl, rfl⟩ := h
      clear hr0_0 hc0_0 hr0_1 hc0_1 hOK
      go_enter Try.func17, Try.ntmps17
      go_wp2_with (first | ((with_reducible refine gate_dst (N := 3) rfl ?_); refine box_event ?hg (N := 3) ?hd (cs := #[.slice A0_0 l0_0.length c0_0, .slice A0_1 l0_1.length c0_1]) (t := 25) ?hr ?_; (case hd => rfl); (case hg => rfl); (case hr => first | (go_simp; done) | (go_simp; rfl)); intro gb hg w2 hbox hb; have HB := Aside0.mk hb; have HP := Aside0.mk (planAt_box hbox hb HR0.out HC0.out HR1.out HC1.out); clear hbox hb hg) | (go_at_call 58; refine (isPlan_eq gb l0_0 l0_1 _ HP.out HOK.out).mono ?_; rintro e w3 ⟨rfl, hb3⟩; have HB3 := Aside0.mk (below_step HB.out hb3); have HP3 := Aside0.mk (HP.out.below hb3); obtain ⟨A1_, c1_, x1⟩ := ev_cell HP3.out; clear hb3) | (go_at_call_of 59 a1; refine (between_eq' H1.out _).mono ?_; rintro e w' ⟨rfl, rfl⟩) | (go_at_call_of 59 a2; refine (between_eq' H2.out _).mono ?_; rintro e w' ⟨rfl, rfl⟩) | (go_at_call 60; refine (possible_any gb l0_0 l0_1 _ HP3.out HK.out co _ HCI.out).mono ?_; rintro e w4p ⟨rfl, hb4⟩; have HBp := Aside0.mk (below_step HB3.out hb4); have HPp := Aside0.mk (HP3.out.below hb4); clear hb4))
      refine bodyPost_ret (results_list (rs := [.tmp 6, .tmp 7, .tmp 8, .tmp 9]) rfl (by simp) ((.tmp (.tmp (.tmp (.tmp .nil)))))) rfl ?_
      exact ⟨_, rfl, Kd.R_nil _ _ _ _ _, HBp.out⟩
/-! ### CheckTight -/
def dr_CheckTight.f (R : List (S42)) (E : List (S80)) (a1_0 : Int) (a1_1 : Int) (a1_2 : Int) (l2 : List Int) : Option (Int) := some (if planOK R E = true then (if betweenB a1_0 0 ((E.length : Int) - 1) = true ∧ betweenB a1_1 0 ((E.length : Int) - 1) = true then (if l2.length = 0 then (if a1_0 = a1_1 ∧ 0 ≤ a1_2 then 0 else 313) else (if (chainF (bindsL R E) l2).2.2.2 = true ∧ (chainF (bindsL R E) l2).1 = a1_0 ∧ (chainF (bindsL R E) l2).2.1 = a1_1 ∧ (chainF (bindsL R E) l2).2.2.1 ≤ a1_2 then 0 else 313)) else 1) else 311)
set_option maxHeartbeats 3200000 in
set_option maxRecDepth 100000 in
theorem dr_CheckTight.calls (A0_0 : Option Addr) (c0_0 : Nat) (l0_0 : List (S42)) (A0_1 : Option Addr) (c0_1 : Nat) (l0_1 : List (S80)) (a1_0 : Int) (a1_1 : Int) (a1_2 : Int) (A2 : Option Addr) (c2 : Nat) (l2 : List Int) (r : Int) (w : World) (hr0_0 : Kd.C k42 w A0_0 l0_0.length l0_0) (hc0_0 : l0_0.length ≤ c0_0) (hr0_1 : Kd.C k80 w A0_1 l0_1.length l0_1) (hc0_1 : l0_1.length ≤ c0_1) (hr2 : Kd.C (Kd.int .i64) w A2 l2.length l2) (hc2 : l2.length ≤ c2) (h : dr_CheckTight.f l0_0 l0_1 a1_0 a1_1 a1_2 l2 = some r) :
    Calls Try.prog 20 #[.agg #[.slice A0_0 l0_0.length c0_0, .slice A0_1 l0_1.length c0_1], .agg #[.int .i64 a1_0, .int .i64 a1_1, .int .i64 a1_2], .slice A2 l2.length c2] w fun e w' => e = .returned (.int .i64 r) ∧ Below w.heap.size w w' := by
  have HR0 := Aside0.mk hr0_0
  have HC0 := Aside0.mk hc0_0
  have HR1 := Aside0.mk hr0_1
  have HC1 := Aside0.mk hc0_1
  have HL := Aside0.mk hr2
  clear hr2 hc2
  unfold dr_CheckTight.f at h
  cases hOK : planOK l0_0 l0_1
  · rw [hOK] at h
    have HOK := Aside0.mk hOK
    simp only [Bool.false_eq_true, if_false, Option.some.injEq, Prod.mk.injEq] at h
    subst h
    clear hr0_0 hc0_0 hr0_1 hc0_1 hOK
    go_enter Try.func20, Try.ntmps20
    go_wp2_with (first | ((with_reducible refine gate_dst (N := 3) rfl ?_); refine box_event ?hg (N := 3) ?hd (cs := #[.slice A0_0 l0_0.length c0_0, .slice A0_1 l0_1.length c0_1]) (t := 25) ?hr ?_; (case hd => rfl); (case hg => rfl); (case hr => first | (go_simp; done) | (go_simp; rfl)); intro gb hg w2 hbox hb; have HB := Aside0.mk hb; have HP := Aside0.mk (planAt_box hbox hb HR0.out HC0.out HR1.out HC1.out); clear hbox hb hg) | ((with_reducible refine gate_dst (N := 4) rfl ?_); refine box_event ?hg (N := 4) ?hd (cs := #[.int .i64 a1_0, .int .i64 a1_1, .int .i64 a1_2]) (t := 27) ?hr ?_; (case hd => rfl); (case hg => rfl); (case hr => first | (go_simp; done) | (go_simp; rfl)); intro gd hgd w2b hboxd hbd; have HPz := HP; have HBz := HB; clear HP HB; have HP := Aside0.mk (HPz.out.below hbd); have HB := Aside0.mk (below_step HBz.out hbd); clear HPz HBz; have HD := Aside0.mk hboxd; clear hboxd hbd hgd) | (go_at_call 58; refine (isPlan_eq gb l0_0 l0_1 _ HP.out HOK.out).mono ?_; rintro e w3 ⟨rfl, hb3⟩; have HB3 := Aside0.mk (below_step HB.out hb3); have HP3 := Aside0.mk (HP.out.below hb3); obtain ⟨A1_, c1_, x1⟩ := ev_cell HP3.out; have HD3 := Aside0.mk (blk_below HD.out hb3); have d0 : w3.cell? ⟨gd, 0, none⟩ = some (.int .i64 a1_0) := (blk_cell HD3.out 0).trans rfl; have d1 : w3.cell? ⟨gd, 1, none⟩ = some (.int .i64 a1_1) := (blk_cell HD3.out 1).trans rfl; have d2 : w3.cell? ⟨gd, 2, none⟩ = some (.int .i64 a1_2) := (blk_cell HD3.out 2).trans rfl; clear hb3))
    go_ret
    exact ⟨rfl, HB3.out⟩
  · rw [hOK] at h
    have HOK := Aside0.mk hOK
    have HK := Aside0.mk ((planOK_iff l0_0 l0_1).1 hOK)
    simp only [if_true] at h
    have hlen1 := HK.out.pos
    have hlen2 := HK.out.len
    have hl2 : l2.length ≤ 9223372036854775807 := HL.out.2.1
    cases h1 : betweenB a1_0 0 ((l0_1.length : Int) - 1)
    · have H1 := Aside0.mk h1
      rw [if_neg (by rw [h1]; simp)] at h
      simp only [Option.some.injEq] at h
      subst h
      clear h1
      clear hr0_0 hc0_0 hr0_1 hc0_1 hOK
      go_enter Try.func20, Try.ntmps20
      go_wp2_with (first | ((with_reducible refine gate_dst (N := 3) rfl ?_); refine box_event ?hg (N := 3) ?hd (cs := #[.slice A0_0 l0_0.length c0_0, .slice A0_1 l0_1.length c0_1]) (t := 25) ?hr ?_; (case hd => rfl); (case hg => rfl); (case hr => first | (go_simp; done) | (go_simp; rfl)); intro gb hg w2 hbox hb; have HB := Aside0.mk hb; have HP := Aside0.mk (planAt_box hbox hb HR0.out HC0.out HR1.out HC1.out); clear hbox hb hg) | ((with_reducible refine gate_dst (N := 4) rfl ?_); refine box_event ?hg (N := 4) ?hd (cs := #[.int .i64 a1_0, .int .i64 a1_1, .int .i64 a1_2]) (t := 27) ?hr ?_; (case hd => rfl); (case hg => rfl); (case hr => first | (go_simp; done) | (go_simp; rfl)); intro gd hgd w2b hboxd hbd; have HPz := HP; have HBz := HB; clear HP HB; have HP := Aside0.mk (HPz.out.below hbd); have HB := Aside0.mk (below_step HBz.out hbd); clear HPz HBz; have HD := Aside0.mk hboxd; clear hboxd hbd hgd) | (go_at_call 58; refine (isPlan_eq gb l0_0 l0_1 _ HP.out HOK.out).mono ?_; rintro e w3 ⟨rfl, hb3⟩; have HB3 := Aside0.mk (below_step HB.out hb3); have HP3 := Aside0.mk (HP.out.below hb3); obtain ⟨A1_, c1_, x1⟩ := ev_cell HP3.out; have HD3 := Aside0.mk (blk_below HD.out hb3); have d0 : w3.cell? ⟨gd, 0, none⟩ = some (.int .i64 a1_0) := (blk_cell HD3.out 0).trans rfl; have d1 : w3.cell? ⟨gd, 1, none⟩ = some (.int .i64 a1_1) := (blk_cell HD3.out 1).trans rfl; have d2 : w3.cell? ⟨gd, 2, none⟩ = some (.int .i64 a1_2) := (blk_cell HD3.out 2).trans rfl; clear hb3) | (go_at_call_of 59 a1_0; refine (between_eq' H1.out _).mono ?_; rintro e w' ⟨rfl, rfl⟩))
      go_ret
      exact ⟨rfl, HB3.out⟩
    cases h2 : betweenB a1_1 0 ((l0_1.length : Int) - 1)
    · have H1 := Aside0.mk h1
      have H2 := Aside0.mk h2
      rw [if_neg (by rw [h2]; simp)] at h
      simp only [Option.some.injEq] at h
      subst h
      clear h1 h2
      clear hr0_0 hc0_0 hr0_1 hc0_1 hOK
      go_enter Try.func20, Try.ntmps20
      go_wp2_with (first | ((with_reducible refine gate_dst (N := 3) rfl ?_); refine box_event ?hg (N := 3) ?hd (cs := #[.slice A0_0 l0_0.length c0_0, .slice A0_1 l0_1.length c0_1]) (t := 25) ?hr ?_; (case hd => rfl); (case hg => rfl); (case hr => first | (go_simp; done) | (go_simp; rfl)); intro gb hg w2 hbox hb; have HB := Aside0.mk hb; have HP := Aside0.mk (planAt_box hbox hb HR0.out HC0.out HR1.out HC1.out); clear hbox hb hg) | ((with_reducible refine gate_dst (N := 4) rfl ?_); refine box_event ?hg (N := 4) ?hd (cs := #[.int .i64 a1_0, .int .i64 a1_1, .int .i64 a1_2]) (t := 27) ?hr ?_; (case hd => rfl); (case hg => rfl); (case hr => first | (go_simp; done) | (go_simp; rfl)); intro gd hgd w2b hboxd hbd; have HPz := HP; have HBz := HB; clear HP HB; have HP := Aside0.mk (HPz.out.below hbd); have HB := Aside0.mk (below_step HBz.out hbd); clear HPz HBz; have HD := Aside0.mk hboxd; clear hboxd hbd hgd) | (go_at_call 58; refine (isPlan_eq gb l0_0 l0_1 _ HP.out HOK.out).mono ?_; rintro e w3 ⟨rfl, hb3⟩; have HB3 := Aside0.mk (below_step HB.out hb3); have HP3 := Aside0.mk (HP.out.below hb3); obtain ⟨A1_, c1_, x1⟩ := ev_cell HP3.out; have HD3 := Aside0.mk (blk_below HD.out hb3); have d0 : w3.cell? ⟨gd, 0, none⟩ = some (.int .i64 a1_0) := (blk_cell HD3.out 0).trans rfl; have d1 : w3.cell? ⟨gd, 1, none⟩ = some (.int .i64 a1_1) := (blk_cell HD3.out 1).trans rfl; have d2 : w3.cell? ⟨gd, 2, none⟩ = some (.int .i64 a1_2) := (blk_cell HD3.out 2).trans rfl; clear hb3) | (go_at_call_of 59 a1_0; refine (between_eq' H1.out _).mono ?_; rintro e w' ⟨rfl, rfl⟩) | (go_at_call_of 59 a1_1; refine (between_eq' H2.out _).mono ?_; rintro e w' ⟨rfl, rfl⟩))
      go_ret
      exact ⟨rfl, HB3.out⟩
    have H1 := Aside0.mk h1
    have H2 := Aside0.mk h2
    rw [if_pos ⟨h1, h2⟩] at h
    clear h1 h2
    by_cases hl0 : l2.length = 0
    · have n0 : ((l2.length : Int) == 0) = true := by simp; exact List.eq_nil_of_length_eq_zero hl0
      have n0' : (l2.length == 0) = true := by simpa using hl0
      rw [if_pos hl0] at h
      by_cases hab : a1_0 = a1_1
      · have n1 : (a1_0 != a1_1) = false := by simpa using hab
        by_cases hs : 0 ≤ a1_2
        · have n2 : decide (a1_2 < 0) = false := by simpa using hs
          rw [if_pos ⟨hab, hs⟩, Option.some.injEq] at h
          subst h
          clear hab hs
          clear hr0_0 hc0_0 hr0_1 hc0_1 hOK
          go_enter Try.func20, Try.ntmps20
          go_wp2_with (first | ((with_reducible refine gate_dst (N := 3) rfl ?_); refine box_event ?hg (N := 3) ?hd (cs := #[.slice A0_0 l0_0.length c0_0, .slice A0_1 l0_1.length c0_1]) (t := 25) ?hr ?_; (case hd => rfl); (case hg => rfl); (case hr => first | (go_simp; done) | (go_simp; rfl)); intro gb hg w2 hbox hb; have HB := Aside0.mk hb; have HP := Aside0.mk (planAt_box hbox hb HR0.out HC0.out HR1.out HC1.out); clear hbox hb hg) | ((with_reducible refine gate_dst (N := 4) rfl ?_); refine box_event ?hg (N := 4) ?hd (cs := #[.int .i64 a1_0, .int .i64 a1_1, .int .i64 a1_2]) (t := 27) ?hr ?_; (case hd => rfl); (case hg => rfl); (case hr => first | (go_simp; done) | (go_simp; rfl)); intro gd hgd w2b hboxd hbd; have HPz := HP; have HBz := HB; clear HP HB; have HP := Aside0.mk (HPz.out.below hbd); have HB := Aside0.mk (below_step HBz.out hbd); clear HPz HBz; have HD := Aside0.mk hboxd; clear hboxd hbd hgd) | (go_at_call 58; refine (isPlan_eq gb l0_0 l0_1 _ HP.out HOK.out).mono ?_; rintro e w3 ⟨rfl, hb3⟩; have HB3 := Aside0.mk (below_step HB.out hb3); have HP3 := Aside0.mk (HP.out.below hb3); obtain ⟨A1_, c1_, x1⟩ := ev_cell HP3.out; have HD3 := Aside0.mk (blk_below HD.out hb3); have d0 : w3.cell? ⟨gd, 0, none⟩ = some (.int .i64 a1_0) := (blk_cell HD3.out 0).trans rfl; have d1 : w3.cell? ⟨gd, 1, none⟩ = some (.int .i64 a1_1) := (blk_cell HD3.out 1).trans rfl; have d2 : w3.cell? ⟨gd, 2, none⟩ = some (.int .i64 a1_2) := (blk_cell HD3.out 2).trans rfl; clear hb3) | (go_at_call_of 59 a1_0; refine (between_eq' H1.out _).mono ?_; rintro e w' ⟨rfl, rfl⟩) | (go_at_call_of 59 a1_1; refine (between_eq' H2.out _).mono ?_; rintro e w' ⟨rfl, rfl⟩))
          go_ret
          exact ⟨rfl, HB3.out⟩
        · have n2 : decide (a1_2 < 0) = true := by simpa using hs
          rw [if_neg (fun hh => hs hh.2), Option.some.injEq] at h
          subst h
          clear hab hs
          clear hr0_0 hc0_0 hr0_1 hc0_1 hOK
          go_enter Try.func20, Try.ntmps20
          go_wp2_with (first | ((with_reducible refine gate_dst (N := 3) rfl ?_); refine box_event ?hg (N := 3) ?hd (cs := #[.slice A0_0 l0_0.length c0_0, .slice A0_1 l0_1.length c0_1]) (t := 25) ?hr ?_; (case hd => rfl); (case hg => rfl); (case hr => first | (go_simp; done) | (go_simp; rfl)); intro gb hg w2 hbox hb; have HB := Aside0.mk hb; have HP := Aside0.mk (planAt_box hbox hb HR0.out HC0.out HR1.out HC1.out); clear hbox hb hg) | ((with_reducible refine gate_dst (N := 4) rfl ?_); refine box_event ?hg (N := 4) ?hd (cs := #[.int .i64 a1_0, .int .i64 a1_1, .int .i64 a1_2]) (t := 27) ?hr ?_; (case hd => rfl); (case hg => rfl); (case hr => first | (go_simp; done) | (go_simp; rfl)); intro gd hgd w2b hboxd hbd; have HPz := HP; have HBz := HB; clear HP HB; have HP := Aside0.mk (HPz.out.below hbd); have HB := Aside0.mk (below_step HBz.out hbd); clear HPz HBz; have HD := Aside0.mk hboxd; clear hboxd hbd hgd) | (go_at_call 58; refine (isPlan_eq gb l0_0 l0_1 _ HP.out HOK.out).mono ?_; rintro e w3 ⟨rfl, hb3⟩; have HB3 := Aside0.mk (below_step HB.out hb3); have HP3 := Aside0.mk (HP.out.below hb3); obtain ⟨A1_, c1_, x1⟩ := ev_cell HP3.out; have HD3 := Aside0.mk (blk_below HD.out hb3); have d0 : w3.cell? ⟨gd, 0, none⟩ = some (.int .i64 a1_0) := (blk_cell HD3.out 0).trans rfl; have d1 : w3.cell? ⟨gd, 1, none⟩ = some (.int .i64 a1_1) := (blk_cell HD3.out 1).trans rfl; have d2 : w3.cell? ⟨gd, 2, none⟩ = some (.int .i64 a1_2) := (blk_cell HD3.out 2).trans rfl; clear hb3) | (go_at_call_of 59 a1_0; refine (between_eq' H1.out _).mono ?_; rintro e w' ⟨rfl, rfl⟩) | (go_at_call_of 59 a1_1; refine (between_eq' H2.out _).mono ?_; rintro e w' ⟨rfl, rfl⟩))
          go_ret
          exact ⟨rfl, HB3.out⟩
      · have n1 : (a1_0 != a1_1) = true := by simpa using hab
        rw [if_neg (fun hh => hab hh.1), Option.some.injEq] at h
        subst h
        clear hab
        clear hr0_0 hc0_0 hr0_1 hc0_1 hOK
        go_enter Try.func20, Try.ntmps20
        go_wp2_with (first | ((with_reducible refine gate_dst (N := 3) rfl ?_); refine box_event ?hg (N := 3) ?hd (cs := #[.slice A0_0 l0_0.length c0_0, .slice A0_1 l0_1.length c0_1]) (t := 25) ?hr ?_; (case hd => rfl); (case hg => rfl); (case hr => first | (go_simp; done) | (go_simp; rfl)); intro gb hg w2 hbox hb; have HB := Aside0.mk hb; have HP := Aside0.mk (planAt_box hbox hb HR0.out HC0.out HR1.out HC1.out); clear hbox hb hg) | ((with_reducible refine gate_dst (N := 4) rfl ?_); refine box_event ?hg (N := 4) ?hd (cs := #[.int .i64 a1_0, .int .i64 a1_1, .int .i64 a1_2]) (t := 27) ?hr ?_; (case hd => rfl); (case hg => rfl); (case hr => first | (go_simp; done) | (go_simp; rfl)); intro gd hgd w2b hboxd hbd; have HPz := HP; have HBz := HB; clear HP HB; have HP := Aside0.mk (HPz.out.below hbd); have HB := Aside0.mk (below_step HBz.out hbd); clear HPz HBz; have HD := Aside0.mk hboxd; clear hboxd hbd hgd) | (go_at_call 58; refine (isPlan_eq gb l0_0 l0_1 _ HP.out HOK.out).mono ?_; rintro e w3 ⟨rfl, hb3⟩; have HB3 := Aside0.mk (below_step HB.out hb3); have HP3 := Aside0.mk (HP.out.below hb3); obtain ⟨A1_, c1_, x1⟩ := ev_cell HP3.out; have HD3 := Aside0.mk (blk_below HD.out hb3); have d0 : w3.cell? ⟨gd, 0, none⟩ = some (.int .i64 a1_0) := (blk_cell HD3.out 0).trans rfl; have d1 : w3.cell? ⟨gd, 1, none⟩ = some (.int .i64 a1_1) := (blk_cell HD3.out 1).trans rfl; have d2 : w3.cell? ⟨gd, 2, none⟩ = some (.int .i64 a1_2) := (blk_cell HD3.out 2).trans rfl; clear hb3) | (go_at_call_of 59 a1_0; refine (between_eq' H1.out _).mono ?_; rintro e w' ⟨rfl, rfl⟩) | (go_at_call_of 59 a1_1; refine (between_eq' H2.out _).mono ?_; rintro e w' ⟨rfl, rfl⟩))
        go_ret
        exact ⟨rfl, HB3.out⟩
    · have n0 : ((l2.length : Int) == 0) = false := by simp; exact fun hh => hl0 (by rw [hh]; rfl)
      have n0' : (l2.length == 0) = false := by simpa using hl0
      rw [if_neg hl0] at h
      clear hl0
      generalize hch : chainF (bindsL l0_0 l0_1) l2 = q at h
      obtain ⟨a, b, s, ok⟩ := q
      have HCH := Aside0.mk hch
      clear hch
      simp only [Option.some.injEq] at h
      cases ok
      · rw [if_neg (by simp)] at h
        subst h
        clear hr0_0 hc0_0 hr0_1 hc0_1 hOK
        go_enter Try.func20, Try.ntmps20
        go_wp2_with (first | ((with_reducible refine gate_dst (N := 3) rfl ?_); refine box_event ?hg (N := 3) ?hd (cs := #[.slice A0_0 l0_0.length c0_0, .slice A0_1 l0_1.length c0_1]) (t := 25) ?hr ?_; (case hd => rfl); (case hg => rfl); (case hr => first | (go_simp; done) | (go_simp; rfl)); intro gb hg w2 hbox hb; have HB := Aside0.mk hb; have HP := Aside0.mk (planAt_box hbox hb HR0.out HC0.out HR1.out HC1.out); clear hbox hb hg) | ((with_reducible refine gate_dst (N := 4) rfl ?_); refine box_event ?hg (N := 4) ?hd (cs := #[.int .i64 a1_0, .int .i64 a1_1, .int .i64 a1_2]) (t := 27) ?hr ?_; (case hd => rfl); (case hg => rfl); (case hr => first | (go_simp; done) | (go_simp; rfl)); intro gd hgd w2b hboxd hbd; have HPz := HP; have HBz := HB; clear HP HB; have HP := Aside0.mk (HPz.out.below hbd); have HB := Aside0.mk (below_step HBz.out hbd); clear HPz HBz; have HD := Aside0.mk hboxd; clear hboxd hbd hgd) | (go_at_call 58; refine (isPlan_eq gb l0_0 l0_1 _ HP.out HOK.out).mono ?_; rintro e w3 ⟨rfl, hb3⟩; have HB3 := Aside0.mk (below_step HB.out hb3); have HP3 := Aside0.mk (HP.out.below hb3); obtain ⟨A1_, c1_, x1⟩ := ev_cell HP3.out; have HD3 := Aside0.mk (blk_below HD.out hb3); have d0 : w3.cell? ⟨gd, 0, none⟩ = some (.int .i64 a1_0) := (blk_cell HD3.out 0).trans rfl; have d1 : w3.cell? ⟨gd, 1, none⟩ = some (.int .i64 a1_1) := (blk_cell HD3.out 1).trans rfl; have d2 : w3.cell? ⟨gd, 2, none⟩ = some (.int .i64 a1_2) := (blk_cell HD3.out 2).trans rfl; clear hb3) | (go_at_call_of 59 a1_0; refine (between_eq' H1.out _).mono ?_; rintro e w' ⟨rfl, rfl⟩) | (go_at_call_of 59 a1_1; refine (between_eq' H2.out _).mono ?_; rintro e w' ⟨rfl, rfl⟩) | (go_at_call 62; refine (binds_any gb l0_0 l0_1 _ HP3.out HK.out.toEvsOK).mono ?_; rintro e w4 ⟨v4, rfl, hO⟩; have HO := Aside0.mk hO; have HB4 := Aside0.mk (below_step HB3.out hO.2); have HD4 := Aside0.mk (blk_below HD3.out hO.2); clear d0 d1 d2 x1 hO) | (go_at_call 66; refine (chain_bs l0_0 l0_1 _ _ _ HO.out A2 c2 l2 (Kd.C_below HL.out HB4.out) _ _ _ _ HCH.out).mono ?_; rintro e w5 ⟨rfl, hb5⟩; have HB5 := Aside0.mk (below_step HB4.out hb5); have HD5 := Aside0.mk (blk_below HD4.out hb5); have d0 : w5.cell? ⟨gd, 0, none⟩ = some (.int .i64 a1_0) := (blk_cell HD5.out 0).trans rfl; have d1 : w5.cell? ⟨gd, 1, none⟩ = some (.int .i64 a1_1) := (blk_cell HD5.out 1).trans rfl; have d2 : w5.cell? ⟨gd, 2, none⟩ = some (.int .i64 a1_2) := (blk_cell HD5.out 2).trans rfl; clear hb5))
        go_ret
        exact ⟨rfl, HB5.out⟩
      by_cases ha : a = a1_0
      · have n1 : (a != a1_0) = false := by simpa using ha
        by_cases hb : b = a1_1
        · have n2 : (b != a1_1) = false := by simpa using hb
          by_cases hs : s ≤ a1_2
          · have n3 : decide (a1_2 < s) = false := by simpa using hs
            rw [if_pos ⟨rfl, ha, hb, hs⟩] at h
            subst h
            clear ha hb hs
            clear hr0_0 hc0_0 hr0_1 hc0_1 hOK
            go_enter Try.func20, Try.ntmps20
            go_wp2_with (first | ((with_reducible refine gate_dst (N := 3) rfl ?_); refine box_event ?hg (N := 3) ?hd (cs := #[.slice A0_0 l0_0.length c0_0, .slice A0_1 l0_1.length c0_1]) (t := 25) ?hr ?_; (case hd => rfl); (case hg => rfl); (case hr => first | (go_simp; done) | (go_simp; rfl)); intro gb hg w2 hbox hb; have HB := Aside0.mk hb; have HP := Aside0.mk (planAt_box hbox hb HR0.out HC0.out HR1.out HC1.out); clear hbox hb hg) | ((with_reducible refine gate_dst (N := 4) rfl ?_); refine box_event ?hg (N := 4) ?hd (cs := #[.int .i64 a1_0, .int .i64 a1_1, .int .i64 a1_2]) (t := 27) ?hr ?_; (case hd => rfl); (case hg => rfl); (case hr => first | (go_simp; done) | (go_simp; rfl)); intro gd hgd w2b hboxd hbd; have HPz := HP; have HBz := HB; clear HP HB; have HP := Aside0.mk (HPz.out.below hbd); have HB := Aside0.mk (below_step HBz.out hbd); clear HPz HBz; have HD := Aside0.mk hboxd; clear hboxd hbd hgd) | (go_at_call 58; refine (isPlan_eq gb l0_0 l0_1 _ HP.out HOK.out).mono ?_; rintro e w3 ⟨rfl, hb3⟩; have HB3 := Aside0.mk (below_step HB.out hb3); have HP3 := Aside0.mk (HP.out.below hb3); obtain ⟨A1_, c1_, x1⟩ := ev_cell HP3.out; have HD3 := Aside0.mk (blk_below HD.out hb3); have d0 : w3.cell? ⟨gd, 0, none⟩ = some (.int .i64 a1_0) := (blk_cell HD3.out 0).trans rfl; have d1 : w3.cell? ⟨gd, 1, none⟩ = some (.int .i64 a1_1) := (blk_cell HD3.out 1).trans rfl; have d2 : w3.cell? ⟨gd, 2, none⟩ = some (.int .i64 a1_2) := (blk_cell HD3.out 2).trans rfl; clear hb3) | (go_at_call_of 59 a1_0; refine (between_eq' H1.out _).mono ?_; rintro e w' ⟨rfl, rfl⟩) | (go_at_call_of 59 a1_1; refine (between_eq' H2.out _).mono ?_; rintro e w' ⟨rfl, rfl⟩) | (go_at_call 62; refine (binds_any gb l0_0 l0_1 _ HP3.out HK.out.toEvsOK).mono ?_; rintro e w4 ⟨v4, rfl, hO⟩; have HO := Aside0.mk hO; have HB4 := Aside0.mk (below_step HB3.out hO.2); have HD4 := Aside0.mk (blk_below HD3.out hO.2); clear d0 d1 d2 x1 hO) | (go_at_call 66; refine (chain_bs l0_0 l0_1 _ _ _ HO.out A2 c2 l2 (Kd.C_below HL.out HB4.out) _ _ _ _ HCH.out).mono ?_; rintro e w5 ⟨rfl, hb5⟩; have HB5 := Aside0.mk (below_step HB4.out hb5); have HD5 := Aside0.mk (blk_below HD4.out hb5); have d0 : w5.cell? ⟨gd, 0, none⟩ = some (.int .i64 a1_0) := (blk_cell HD5.out 0).trans rfl; have d1 : w5.cell? ⟨gd, 1, none⟩ = some (.int .i64 a1_1) := (blk_cell HD5.out 1).trans rfl; have d2 : w5.cell? ⟨gd, 2, none⟩ = some (.int .i64 a1_2) := (blk_cell HD5.out 2).trans rfl; clear hb5))
            go_ret
            exact ⟨rfl, HB5.out⟩
          · have n3 : decide (a1_2 < s) = true := by simpa using hs
            rw [if_neg (fun hh => hs hh.2.2.2)] at h
            subst h
            clear ha hb hs
            clear hr0_0 hc0_0 hr0_1 hc0_1 hOK
            go_enter Try.func20, Try.ntmps20
            go_wp2_with (first | ((with_reducible refine gate_dst (N := 3) rfl ?_); refine box_event ?hg (N := 3) ?hd (cs := #[.slice A0_0 l0_0.length c0_0, .slice A0_1 l0_1.length c0_1]) (t := 25) ?hr ?_; (case hd => rfl); (case hg => rfl); (case hr => first | (go_simp; done) | (go_simp; rfl)); intro gb hg w2 hbox hb; have HB := Aside0.mk hb; have HP := Aside0.mk (planAt_box hbox hb HR0.out HC0.out HR1.out HC1.out); clear hbox hb hg) | ((with_reducible refine gate_dst (N := 4) rfl ?_); refine box_event ?hg (N := 4) ?hd (cs := #[.int .i64 a1_0, .int .i64 a1_1, .int .i64 a1_2]) (t := 27) ?hr ?_; (case hd => rfl); (case hg => rfl); (case hr => first | (go_simp; done) | (go_simp; rfl)); intro gd hgd w2b hboxd hbd; have HPz := HP; have HBz := HB; clear HP HB; have HP := Aside0.mk (HPz.out.below hbd); have HB := Aside0.mk (below_step HBz.out hbd); clear HPz HBz; have HD := Aside0.mk hboxd; clear hboxd hbd hgd) | (go_at_call 58; refine (isPlan_eq gb l0_0 l0_1 _ HP.out HOK.out).mono ?_; rintro e w3 ⟨rfl, hb3⟩; have HB3 := Aside0.mk (below_step HB.out hb3); have HP3 := Aside0.mk (HP.out.below hb3); obtain ⟨A1_, c1_, x1⟩ := ev_cell HP3.out; have HD3 := Aside0.mk (blk_below HD.out hb3); have d0 : w3.cell? ⟨gd, 0, none⟩ = some (.int .i64 a1_0) := (blk_cell HD3.out 0).trans rfl; have d1 : w3.cell? ⟨gd, 1, none⟩ = some (.int .i64 a1_1) := (blk_cell HD3.out 1).trans rfl; have d2 : w3.cell? ⟨gd, 2, none⟩ = some (.int .i64 a1_2) := (blk_cell HD3.out 2).trans rfl; clear hb3) | (go_at_call_of 59 a1_0; refine (between_eq' H1.out _).mono ?_; rintro e w' ⟨rfl, rfl⟩) | (go_at_call_of 59 a1_1; refine (between_eq' H2.out _).mono ?_; rintro e w' ⟨rfl, rfl⟩) | (go_at_call 62; refine (binds_any gb l0_0 l0_1 _ HP3.out HK.out.toEvsOK).mono ?_; rintro e w4 ⟨v4, rfl, hO⟩; have HO := Aside0.mk hO; have HB4 := Aside0.mk (below_step HB3.out hO.2); have HD4 := Aside0.mk (blk_below HD3.out hO.2); clear d0 d1 d2 x1 hO) | (go_at_call 66; refine (chain_bs l0_0 l0_1 _ _ _ HO.out A2 c2 l2 (Kd.C_below HL.out HB4.out) _ _ _ _ HCH.out).mono ?_; rintro e w5 ⟨rfl, hb5⟩; have HB5 := Aside0.mk (below_step HB4.out hb5); have HD5 := Aside0.mk (blk_below HD4.out hb5); have d0 : w5.cell? ⟨gd, 0, none⟩ = some (.int .i64 a1_0) := (blk_cell HD5.out 0).trans rfl; have d1 : w5.cell? ⟨gd, 1, none⟩ = some (.int .i64 a1_1) := (blk_cell HD5.out 1).trans rfl; have d2 : w5.cell? ⟨gd, 2, none⟩ = some (.int .i64 a1_2) := (blk_cell HD5.out 2).trans rfl; clear hb5))
            go_ret
            exact ⟨rfl, HB5.out⟩
        · have n2 : (b != a1_1) = true := by simpa using hb
          rw [if_neg (fun hh => hb hh.2.2.1)] at h
          subst h
          clear ha hb
          clear hr0_0 hc0_0 hr0_1 hc0_1 hOK
          go_enter Try.func20, Try.ntmps20
          go_wp2_with (first | ((with_reducible refine gate_dst (N := 3) rfl ?_); refine box_event ?hg (N := 3) ?hd (cs := #[.slice A0_0 l0_0.length c0_0, .slice A0_1 l0_1.length c0_1]) (t := 25) ?hr ?_; (case hd => rfl); (case hg => rfl); (case hr => first | (go_simp; done) | (go_simp; rfl)); intro gb hg w2 hbox hb; have HB := Aside0.mk hb; have HP := Aside0.mk (planAt_box hbox hb HR0.out HC0.out HR1.out HC1.out); clear hbox hb hg) | ((with_reducible refine gate_dst (N := 4) rfl ?_); refine box_event ?hg (N := 4) ?hd (cs := #[.int .i64 a1_0, .int .i64 a1_1, .int .i64 a1_2]) (t := 27) ?hr ?_; (case hd => rfl); (case hg => rfl); (case hr => first | (go_simp; done) | (go_simp; rfl)); intro gd hgd w2b hboxd hbd; have HPz := HP; have HBz := HB; clear HP HB; have HP := Aside0.mk (HPz.out.below hbd); have HB := Aside0.mk (below_step HBz.out hbd); clear HPz HBz; have HD := Aside0.mk hboxd; clear hboxd hbd hgd) | (go_at_call 58; refine (isPlan_eq gb l0_0 l0_1 _ HP.out HOK.out).mono ?_; rintro e w3 ⟨rfl, hb3⟩; have HB3 := Aside0.mk (below_step HB.out hb3); have HP3 := Aside0.mk (HP.out.below hb3); obtain ⟨A1_, c1_, x1⟩ := ev_cell HP3.out; have HD3 := Aside0.mk (blk_below HD.out hb3); have d0 : w3.cell? ⟨gd, 0, none⟩ = some (.int .i64 a1_0) := (blk_cell HD3.out 0).trans rfl; have d1 : w3.cell? ⟨gd, 1, none⟩ = some (.int .i64 a1_1) := (blk_cell HD3.out 1).trans rfl; have d2 : w3.cell? ⟨gd, 2, none⟩ = some (.int .i64 a1_2) := (blk_cell HD3.out 2).trans rfl; clear hb3) | (go_at_call_of 59 a1_0; refine (between_eq' H1.out _).mono ?_; rintro e w' ⟨rfl, rfl⟩) | (go_at_call_of 59 a1_1; refine (between_eq' H2.out _).mono ?_; rintro e w' ⟨rfl, rfl⟩) | (go_at_call 62; refine (binds_any gb l0_0 l0_1 _ HP3.out HK.out.toEvsOK).mono ?_; rintro e w4 ⟨v4, rfl, hO⟩; have HO := Aside0.mk hO; have HB4 := Aside0.mk (below_step HB3.out hO.2); have HD4 := Aside0.mk (blk_below HD3.out hO.2); clear d0 d1 d2 x1 hO) | (go_at_call 66; refine (chain_bs l0_0 l0_1 _ _ _ HO.out A2 c2 l2 (Kd.C_below HL.out HB4.out) _ _ _ _ HCH.out).mono ?_; rintro e w5 ⟨rfl, hb5⟩; have HB5 := Aside0.mk (below_step HB4.out hb5); have HD5 := Aside0.mk (blk_below HD4.out hb5); have d0 : w5.cell? ⟨gd, 0, none⟩ = some (.int .i64 a1_0) := (blk_cell HD5.out 0).trans rfl; have d1 : w5.cell? ⟨gd, 1, none⟩ = some (.int .i64 a1_1) := (blk_cell HD5.out 1).trans rfl; have d2 : w5.cell? ⟨gd, 2, none⟩ = some (.int .i64 a1_2) := (blk_cell HD5.out 2).trans rfl; clear hb5))
          go_ret
          exact ⟨rfl, HB5.out⟩
      · have n1 : (a != a1_0) = true := by simpa using ha
        rw [if_neg (fun hh => ha hh.2.1)] at h
        subst h
        clear ha
        clear hr0_0 hc0_0 hr0_1 hc0_1 hOK
        go_enter Try.func20, Try.ntmps20
        go_wp2_with (first | ((with_reducible refine gate_dst (N := 3) rfl ?_); refine box_event ?hg (N := 3) ?hd (cs := #[.slice A0_0 l0_0.length c0_0, .slice A0_1 l0_1.length c0_1]) (t := 25) ?hr ?_; (case hd => rfl); (case hg => rfl); (case hr => first | (go_simp; done) | (go_simp; rfl)); intro gb hg w2 hbox hb; have HB := Aside0.mk hb; have HP := Aside0.mk (planAt_box hbox hb HR0.out HC0.out HR1.out HC1.out); clear hbox hb hg) | ((with_reducible refine gate_dst (N := 4) rfl ?_); refine box_event ?hg (N := 4) ?hd (cs := #[.int .i64 a1_0, .int .i64 a1_1, .int .i64 a1_2]) (t := 27) ?hr ?_; (case hd => rfl); (case hg => rfl); (case hr => first | (go_simp; done) | (go_simp; rfl)); intro gd hgd w2b hboxd hbd; have HPz := HP; have HBz := HB; clear HP HB; have HP := Aside0.mk (HPz.out.below hbd); have HB := Aside0.mk (below_step HBz.out hbd); clear HPz HBz; have HD := Aside0.mk hboxd; clear hboxd hbd hgd) | (go_at_call 58; refine (isPlan_eq gb l0_0 l0_1 _ HP.out HOK.out).mono ?_; rintro e w3 ⟨rfl, hb3⟩; have HB3 := Aside0.mk (below_step HB.out hb3); have HP3 := Aside0.mk (HP.out.below hb3); obtain ⟨A1_, c1_, x1⟩ := ev_cell HP3.out; have HD3 := Aside0.mk (blk_below HD.out hb3); have d0 : w3.cell? ⟨gd, 0, none⟩ = some (.int .i64 a1_0) := (blk_cell HD3.out 0).trans rfl; have d1 : w3.cell? ⟨gd, 1, none⟩ = some (.int .i64 a1_1) := (blk_cell HD3.out 1).trans rfl; have d2 : w3.cell? ⟨gd, 2, none⟩ = some (.int .i64 a1_2) := (blk_cell HD3.out 2).trans rfl; clear hb3) | (go_at_call_of 59 a1_0; refine (between_eq' H1.out _).mono ?_; rintro e w' ⟨rfl, rfl⟩) | (go_at_call_of 59 a1_1; refine (between_eq' H2.out _).mono ?_; rintro e w' ⟨rfl, rfl⟩) | (go_at_call 62; refine (binds_any gb l0_0 l0_1 _ HP3.out HK.out.toEvsOK).mono ?_; rintro e w4 ⟨v4, rfl, hO⟩; have HO := Aside0.mk hO; have HB4 := Aside0.mk (below_step HB3.out hO.2); have HD4 := Aside0.mk (blk_below HD3.out hO.2); clear d0 d1 d2 x1 hO) | (go_at_call 66; refine (chain_bs l0_0 l0_1 _ _ _ HO.out A2 c2 l2 (Kd.C_below HL.out HB4.out) _ _ _ _ HCH.out).mono ?_; rintro e w5 ⟨rfl, hb5⟩; have HB5 := Aside0.mk (below_step HB4.out hb5); have HD5 := Aside0.mk (blk_below HD4.out hb5); have d0 : w5.cell? ⟨gd, 0, none⟩ = some (.int .i64 a1_0) := (blk_cell HD5.out 0).trans rfl; have d1 : w5.cell? ⟨gd, 1, none⟩ = some (.int .i64 a1_1) := (blk_cell HD5.out 1).trans rfl; have d2 : w5.cell? ⟨gd, 2, none⟩ = some (.int .i64 a1_2) := (blk_cell HD5.out 2).trans rfl; clear hb5))
        go_ret
        exact ⟨rfl, HB5.out⟩
/-! ### Holds -/
def dr_Holds.f (R : List (S42)) (E : List (S80)) (l1 : List (S56)) : Option (Int × Int) := if planOK R E = true then (if 200 < l1.length ∨ (l1.any fun d => !demOK E.length d) = true then some (0, 314) else if (l1.all fun d => (breachF R E d).isSome) = true then some (idxOf (breachB R E) l1, 0) else none) else some (0, 311)
set_option maxHeartbeats 3200000 in
set_option maxRecDepth 100000 in
theorem dr_Holds.calls (A0_0 : Option Addr) (c0_0 : Nat) (l0_0 : List (S42)) (A0_1 : Option Addr) (c0_1 : Nat) (l0_1 : List (S80)) (A1 : Option Addr) (c1 : Nat) (l1 : List (S56)) (r1 : Int) (r2 : Int) (w : World) (hr0_0 : Kd.C k42 w A0_0 l0_0.length l0_0) (hc0_0 : l0_0.length ≤ c0_0) (hr0_1 : Kd.C k80 w A0_1 l0_1.length l0_1) (hc0_1 : l0_1.length ≤ c0_1) (hr1 : Kd.C k56 w A1 l1.length l1) (hc1 : l1.length ≤ c1) (h : dr_Holds.f l0_0 l0_1 l1 = some (r1, r2)) :
    Calls Try.prog 21 #[.agg #[.slice A0_0 l0_0.length c0_0, .slice A0_1 l0_1.length c0_1], .slice A1 l1.length c1] w fun e w' => e = .returned (.tuple #[.int .i64 r1, .int .i64 r2]) ∧ Below w.heap.size w w' := by
  have HR0 := Aside0.mk hr0_0
  have HC0 := Aside0.mk hc0_0
  have HR1 := Aside0.mk hr0_1
  have HC1 := Aside0.mk hc0_1
  have HL := Aside0.mk hr1
  clear hr1 hc1
  unfold dr_Holds.f at h
  cases hOK : planOK l0_0 l0_1
  · rw [hOK] at h
    have HOK := Aside0.mk hOK
    simp only [Bool.false_eq_true, if_false, Option.some.injEq, Prod.mk.injEq] at h
    obtain ⟨rfl, rfl⟩ := h
    clear hr0_0 hc0_0 hr0_1 hc0_1 hOK
    go_enter Try.func21, Try.ntmps21
    go_wp2_with (first | ((with_reducible refine gate_dst (N := 2) rfl ?_); refine box_event ?hg (N := 2) ?hd (cs := #[.slice A0_0 l0_0.length c0_0, .slice A0_1 l0_1.length c0_1]) (t := 25) ?hr ?_; (case hd => rfl); (case hg => rfl); (case hr => first | (go_simp; done) | (go_simp; rfl)); intro gb hg w2 hbox hb; have HB := Aside0.mk hb; have HP := Aside0.mk (planAt_box hbox hb HR0.out HC0.out HR1.out HC1.out); clear hbox hb hg) | (go_at_call 58; refine (isPlan_eq gb l0_0 l0_1 _ HP.out HOK.out).mono ?_; rintro e w3 ⟨rfl, hb3⟩; have HB3 := Aside0.mk (below_step HB.out hb3); have HP3 := Aside0.mk (HP.out.below hb3); clear hb3))
    go_ret2
    exact ⟨rfl, HB3.out⟩
  · rw [hOK] at h
    have HOK := Aside0.mk hOK
    have HK := Aside0.mk ((planOK_iff l0_0 l0_1).1 hOK)
    simp only [if_true] at h
    have hl1 : l1.length ≤ 9223372036854775807 := HL.out.2.1
    by_cases h200 : 200 < l1.length
    · have n1 : decide ((200 : Int) < (l1.length : Int)) = true := decide_eq_true (by omega)
      have n1' : decide (200 < l1.length) = true := decide_eq_true h200
      rw [if_pos (Or.inl h200)] at h
      simp only [Option.some.injEq, Prod.mk.injEq] at h
      obtain ⟨rfl, rfl⟩ := h
      clear h200
      clear hr0_0 hc0_0 hr0_1 hc0_1 hOK
      go_enter Try.func21, Try.ntmps21
      go_wp2_with (first | ((with_reducible refine gate_dst (N := 2) rfl ?_); refine box_event ?hg (N := 2) ?hd (cs := #[.slice A0_0 l0_0.length c0_0, .slice A0_1 l0_1.length c0_1]) (t := 25) ?hr ?_; (case hd => rfl); (case hg => rfl); (case hr => first | (go_simp; done) | (go_simp; rfl)); intro gb hg w2 hbox hb; have HB := Aside0.mk hb; have HP := Aside0.mk (planAt_box hbox hb HR0.out HC0.out HR1.out HC1.out); clear hbox hb hg) | (go_at_call 58; refine (isPlan_eq gb l0_0 l0_1 _ HP.out HOK.out).mono ?_; rintro e w3 ⟨rfl, hb3⟩; have HB3 := Aside0.mk (below_step HB.out hb3); have HP3 := Aside0.mk (HP.out.below hb3); clear hb3))
      go_ret2
      exact ⟨rfl, HB3.out⟩
    have n1 : decide ((200 : Int) < (l1.length : Int)) = false := decide_eq_false (by omega)
    have n1' : decide (200 < l1.length) = false := decide_eq_false h200
    cases hdm : (l1.any fun d => !demOK l0_1.length d)
    · rw [if_neg (by rintro (hh | hh); exact h200 hh; rw [hdm] at hh; cases hh)] at h
      by_cases hall : (l1.all fun d => (breachF l0_0 l0_1 d).isSome) = true
      · rw [if_pos hall] at h
        simp only [Option.some.injEq, Prod.mk.injEq] at h
        obtain ⟨rfl, rfl⟩ := h
        have HDM := Aside0.mk hdm
        have HAL := Aside0.mk hall
        clear h200 hdm hall
        clear hr0_0 hc0_0 hr0_1 hc0_1 hOK
        go_enter Try.func21, Try.ntmps21
        go_wp2_with (first | ((with_reducible refine gate_dst (N := 2) rfl ?_); refine box_event ?hg (N := 2) ?hd (cs := #[.slice A0_0 l0_0.length c0_0, .slice A0_1 l0_1.length c0_1]) (t := 25) ?hr ?_; (case hd => rfl); (case hg => rfl); (case hr => first | (go_simp; done) | (go_simp; rfl)); intro gb hg w2 hbox hb; have HB := Aside0.mk hb; have HP := Aside0.mk (planAt_box hbox hb HR0.out HC0.out HR1.out HC1.out); clear hbox hb hg) | (go_at_call 58; refine (isPlan_eq gb l0_0 l0_1 _ HP.out HOK.out).mono ?_; rintro e w3 ⟨rfl, hb3⟩; have HB3 := Aside0.mk (below_step HB.out hb3); have HP3 := Aside0.mk (HP.out.below hb3); clear hb3) | (go_at_call 67; refine (holdsAny_any gb l0_0 l0_1 A1 c1 l1 _ HP3.out HK.out.len (Kd.C_below HL.out HB3.out) HDM.out).mono ?_; rintro e w4 ⟨rfl, hb4⟩; have HB4 := Aside0.mk (below_step HB3.out hb4); have HP4 := Aside0.mk (HP3.out.below hb4); clear hb4) | (go_at_call 70; refine (holdsIdx_any gb l0_0 l0_1 A1 c1 l1 _ HP4.out HK.out (Kd.C_below HL.out HB4.out) HDM.out HAL.out).mono ?_; rintro e w5 ⟨rfl, hb5⟩; have HB5 := Aside0.mk (below_step HB4.out hb5); clear hb5))
        go_ret2
        exact ⟨rfl, HB5.out⟩
      · rw [if_neg hall] at h
        cases h
    · rw [if_pos (Or.inr hdm)] at h
      simp only [Option.some.injEq, Prod.mk.injEq] at h
      obtain ⟨rfl, rfl⟩ := h
      have HDM := Aside0.mk hdm
      clear h200 hdm
      clear hr0_0 hc0_0 hr0_1 hc0_1 hOK
      go_enter Try.func21, Try.ntmps21
      go_wp2_with (first | ((with_reducible refine gate_dst (N := 2) rfl ?_); refine box_event ?hg (N := 2) ?hd (cs := #[.slice A0_0 l0_0.length c0_0, .slice A0_1 l0_1.length c0_1]) (t := 25) ?hr ?_; (case hd => rfl); (case hg => rfl); (case hr => first | (go_simp; done) | (go_simp; rfl)); intro gb hg w2 hbox hb; have HB := Aside0.mk hb; have HP := Aside0.mk (planAt_box hbox hb HR0.out HC0.out HR1.out HC1.out); clear hbox hb hg) | (go_at_call 58; refine (isPlan_eq gb l0_0 l0_1 _ HP.out HOK.out).mono ?_; rintro e w3 ⟨rfl, hb3⟩; have HB3 := Aside0.mk (below_step HB.out hb3); have HP3 := Aside0.mk (HP.out.below hb3); clear hb3) | (go_at_call 67; refine (holdsAny_any gb l0_0 l0_1 A1 c1 l1 _ HP3.out HK.out.len (Kd.C_below HL.out HB3.out) HDM.out).mono ?_; rintro e w4 ⟨rfl, hb4⟩; have HB4 := Aside0.mk (below_step HB3.out hb4); have HP4 := Aside0.mk (HP3.out.below hb4); clear hb4))
      go_ret2
      exact ⟨rfl, HB4.out⟩
/-! ### Breach -/
end Go.Proofs.Ytlfopemghafboaa.D
