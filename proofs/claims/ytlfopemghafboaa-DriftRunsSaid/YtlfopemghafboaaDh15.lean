/- Contracts of functions that the law reaches, each a walk through its code. No condition beyond each theorem's own hypotheses. -/
import Derived.Test.YtlfopemghafboaaDh14
import Derived.Test.YtlfopemghafboaaDh3
import Derived.Test.YtlfopemghafboaaDp0
import Derived.Test.YtlfopemghafboaaDh8
import Derived.WalkSpells
import Derived.Handy
import Derived.StillTailTactics
import Derived.IntWalk
import Derived.Deep.LoopGhost
import Derived.Deep.RegionWith
import Derived.Deep.RegionHeld3
namespace Go.Proofs.Ytlfopemghafboaa.D
open Go.RowKit Go.Proofs.YtlfopemghafboaaW.PrintWords Go.Proofs.YtlfopemghafboaaW.PrintLast Go.Proofs.YtlfopemghafboaaW.PrintMore
set_option linter.unusedVariables false
set_option linter.unusedSimpArgs false

theorem lit1 {W : World} {h : Nat} {p : S27} (hN : W.heap[h]? = some (.cells #[.int .i64 p.f0, .int .i64 p.f1, .int .i64 p.f2] 27 (0, 0))) :
    ∃ A c, Value.slice (some ⟨h, 0, none⟩) 1 1 = .slice A [p].length c ∧ [p].length ≤ c ∧ Kd.C k27 W A [p].length [p] := by
  refine ⟨_, _, rfl, Nat.le_refl _, rfl, by simp, fun _ => ⟨_, rfl, fun j r hr => ?_⟩⟩
  have hc : ∀ k, W.cell? ⟨h, k, none⟩ = (#[Value.int .i64 p.f0, .int .i64 p.f1, .int .i64 p.f2] : Array Value)[k]? := fun k => blk_cell hN k
  have hj : j < 1 := by
    have := (List.getElem?_eq_some_iff.1 hr).1
    simpa using this
  obtain rfl : j = 0 := by omega
  simp only [List.getElem?_cons_zero, Option.some.injEq] at hr
  subst hr
  refine ⟨_, k27.K_len (k27_mk W p), k27_mk W p, fun k u hu => ?_⟩
  rw [add_zero_, Nat.zero_mul, Nat.zero_add]
  have hk : k < 3 := by
    have := (List.getElem?_eq_some_iff.1 hu).1
    simpa using this
  rcases (by omega : k = 0 ∨ k = 1 ∨ k = 2) with rfl | rfl | rfl <;> (simp at hu; subst hu; exact (hc _).trans rfl)
def againstL (d : S56) : List S27 := [(⟨d.f0, d.f1, wrap64 (d.f2 - 1)⟩ : S27)] ++ if d.f3 ≥ 0 then [(⟨d.f1, d.f0, wrap64 (wrap64 (-d.f3) - 1)⟩ : S27)] else []
theorem against_any (d : S56) (w : World) : Calls Try.prog 89 #[.agg #[.int .i64 d.f0, .int .i64 d.f1, .int .i64 d.f2, .int .i64 d.f3]] w fun e w' => ∃ v, e = .returned v ∧ Out w w' v (againstL d) := by
  refine (dr_against.calls d.f0 d.f1 d.f2 d.f3 (againstL d) w ?_).mono (fun e w' h => h)
  unfold dr_against.f againstL
  simp only [Option.bind_some, List.length_cons, List.length_nil]
  split
  · rw [if_pos (by omega)]
  · rfl
def breachGo (bs : List S27) (n : Nat) : List S27 → Option (List Int × Bool)
  | [] => some ([], false)
  | b :: r => match earliestF (bs ++ [b]) n with
    | none => none
    | some (t, true) => some (t, true)
    | some (_, false) => breachGo bs n r
def breachF (R : List S42) (E : List S80) (d : S56) : Option (List Int × Bool) := breachGo (bindsL R E) E.length (againstL d)
theorem earliest_bs (bs : List S27) (n : Nat) (w0 w : World) (v : Value) (hO : Out w0 w v bs) (hn1 : 1 ≤ n) (hn : n ≤ 100) (hl : bs.length ≤ 1000000) (hI : ∀ b ∈ bs, InB n b) (out : List Int) (is : Bool) (hF : earliestF bs n = some (out, is)) :
    Calls Try.prog 75 #[v, .int .i64 (n : Int)] w fun e' w' => ∃ v, e' = .returned (.tuple #[v, .bool is]) ∧ OutI w w' v out := by
  obtain ⟨A, c, rfl, _, hC⟩ := hO.reads
  exact earliest_any A c bs n w hn1 hn hC hl (fun i hi => in_rd hI i hi) out is hF
theorem againstL_in {n : Nat} {d : S56} (h0 : 0 ≤ d.f0 ∧ d.f0 < n) (h1 : 0 ≤ d.f1 ∧ d.f1 < n) : ∀ b ∈ againstL d, InB n b := by
  intro b hb
  unfold againstL at hb
  split at hb <;> simp at hb
  · rcases hb with rfl | rfl
    · exact ⟨h0, h1⟩
    · exact ⟨h1, h0⟩
  · subst hb; exact ⟨h0, h1⟩
theorem againstL_len (d : S56) : (againstL d).length ≤ 2 := by unfold againstL; split <;> simp
set_option maxHeartbeats 3200000 in
set_option maxRecDepth 100000 in
theorem breach_any (g : Nat) (R : List S42) (E : List S80) (d : S56) (w : World) (hP : PlanAt w g R E) (hK : PlanOK R E) (h0 : 0 ≤ d.f0 ∧ d.f0 < E.length) (h1 : 0 ≤ d.f1 ∧ d.f1 < E.length) (out : List Int) (is : Bool) (hF : breachF R E d = some (out, is)) :
    Calls Try.prog 72 #[.pointer (some ⟨g, 0, none⟩), .agg #[.int .i64 d.f0, .int .i64 d.f1, .int .i64 d.f2, .int .i64 d.f3]] w fun e w' => ∃ v, e = .returned (.tuple #[v, .bool is]) ∧ OutI w w' v out := by
  have HP := Aside0.mk hP
  have HK := Aside0.mk hK
  have HF := Aside0.mk hF
  have HI := Aside0.mk (againstL_in h0 h1)
  have HLN := Aside0.mk (againstL_len d)
  clear hP hK hF h0 h1
  go_enter Try.func72, Try.ntmps72
  go_wp2_with (first
    | ((with_reducible refine gate_dst (N := 3) rfl ?_); refine box_event ?hg (N := 3) ?hd (cs := #[.int .i64 d.f0, .int .i64 d.f1, .int .i64 d.f2, .int .i64 d.f3]) (t := 56) ?hr ?_; (case hd => rfl); (case hg => rfl); (case hr => first | (go_simp; done) | (go_simp; rfl)); intro gb hg w2 hbox hb; have HB := Aside0.mk hb; have cb0 : w2.cell? ⟨gb, 0, none⟩ = some (.int .i64 d.f0) := (blk_cell hbox 0).trans rfl; have cb1 : w2.cell? ⟨gb, 1, none⟩ = some (.int .i64 d.f1) := (blk_cell hbox 1).trans rfl; have cb2 : w2.cell? ⟨gb, 2, none⟩ = some (.int .i64 d.f2) := (blk_cell hbox 2).trans rfl; have cb3 : w2.cell? ⟨gb, 3, none⟩ = some (.int .i64 d.f3) := (blk_cell hbox 3).trans rfl; clear hbox hb hg)
    | (go_at_call 89; refine (against_any d _).mono ?_; rintro e w3 ⟨v3, rfl, hO⟩; have HO := Aside0.mk hO; have HB3 := Aside0.mk (below_step HB.out hO.2); obtain ⟨AA, ca, rfl, hca, hCA⟩ := hO.reads; have HCA := Aside0.mk hCA; clear hO cb0 cb1 cb2 cb3 hCA))
  have hcl : (againstL d).length ≤ 9223372036854775807 := HCA.out.2.1
  generalize hL : againstL d = L at *
  go_loopw [13] (fun v13 wr => ∃ j : Nat, v13 = .int .i64 (j : Int) ∧ j ≤ L.length ∧ Aside0 (Below w3.heap.size w3 wr) ∧ Aside0 (breachGo (bindsL R E) E.length (L.drop j) = some (out, is))) (fun v13 wr => L.length - (intOf v13).toNat)
  case atStart => exact ⟨0, rfl, by omega, ⟨Below.refl _ _⟩, ⟨by have := HF.out; unfold breachF at this; rw [hL] at this; exact this⟩⟩
  case round =>
    obtain ⟨j, rfl, hj, HW, HG⟩ := hrel
    have hG := HG.out
    by_cases hlt : j < L.length
    · have hltb : decide ((j : Int) < (L.length : Int)) = true := by simpa using hlt
      obtain ⟨ad, e1, y0, y1, y2⟩ := at_T27 HCA.out (j : Int) (by omega) (by omega)
      cases e1
      replace y0 := (HW.out.cell (World.block_lt_of_cell? _ _ y0)).trans y0
      replace y1 := (HW.out.cell (World.block_lt_of_cell? _ _ y1)).trans y1
      replace y2 := (HW.out.cell (World.block_lt_of_cell? _ _ y2)).trans y2
      simp only [Int.toNat_natCast] at y0 y1 y2
      rw [List.drop_eq_getElem_cons hlt, breachGo] at hG
      have hbe : L[j] = rd_T27 L (j : Int) := by simp [rd_T27, List.getD_eq_getElem?_getD, List.getElem?_eq_getElem hlt]
      have hin : InB E.length L[j] := HI.out _ (List.getElem_mem hlt)
      rw [hbe] at hG hin
      have HIN := Aside0.mk hin
      clear hin hbe HG
      generalize rd_T27 L (j : Int) = b at y0 y1 y2 hG HIN
      have HER : Aside0 (∃ t i2, earliestF (bindsL R E ++ [b]) E.length = some (t, i2) ∧ ((i2 = true ∧ t = out ∧ is = true) ∨ (i2 = false ∧ breachGo (bindsL R E) E.length (L.drop (j + 1)) = some (out, is)))) := ⟨by
        cases he : earliestF (bindsL R E ++ [b]) E.length with
        | none => rw [he] at hG; cases hG
        | some q =>
          obtain ⟨t, i2⟩ := q
          rw [he] at hG
          cases i2
          · exact ⟨t, false, rfl, Or.inr ⟨rfl, hG⟩⟩
          · simp only [Option.some.injEq, Prod.mk.injEq] at hG
            exact ⟨t, true, rfl, Or.inl ⟨rfl, hG.1, hG.2.symm⟩⟩⟩
      clear hG
      obtain ⟨bf, bt, bm⟩ := b
      simp only at y0 y1 y2
      obtain ⟨A1, c1, x1⟩ := ev_cell (HP.out.below (below_step HB3.out HW.out))
      replace x1 := ((below_alloc (Below.refl _ wr) (.cells #[.int .i64 bf, .int .i64 bt, .int .i64 bm] 27)).cell (World.block_lt_of_cell? _ _ x1)).trans x1
      have HPr := Aside0.mk (HP.out.below (below_step HB3.out HW.out))
      have BX := Aside0.mk (blk_new wr (.cells #[.int .i64 bf, .int .i64 bt, .int .i64 bm] 27))
      have HAL := Aside0.mk (below_alloc (Below.refl _ wr) (.cells #[.int .i64 bf, .int .i64 bt, .int .i64 bm] 27))
      go_wp2_with fail
      generalize wr.alloc (.cells #[.int .i64 bf, .int .i64 bt, .int .i64 bm] 27) = V at BX HAL x1 ⊢
      generalize wr.heap.size = gx at BX ⊢
      have hS0 : V.drew.cell? ⟨g, 1, none⟩ = some (.slice A1 E.length c1) ∧ V.drew.cell? ⟨gx, 0, none⟩ = some (.int .i64 bf) ∧ V.drew.cell? ⟨gx, 1, none⟩ = some (.int .i64 bt) ∧ V.drew.cell? ⟨gx, 2, none⟩ = some (.int .i64 bm) := ⟨x1, (blk_cell BX.out 0).trans rfl, (blk_cell BX.out 1).trans rfl, (blk_cell BX.out 2).trans rfl⟩
      have hS0b : (V.drew.alloc (.cells #[.int .i64 bf, .int .i64 bt, .int .i64 bm] 27)).cell? ⟨g, 1, none⟩ = some (.slice A1 E.length c1) ∧ (V.drew.alloc (.cells #[.int .i64 bf, .int .i64 bt, .int .i64 bm] 27)).cell? ⟨gx, 0, none⟩ = some (.int .i64 bf) ∧ (V.drew.alloc (.cells #[.int .i64 bf, .int .i64 bt, .int .i64 bm] 27)).cell? ⟨gx, 1, none⟩ = some (.int .i64 bt) ∧ (V.drew.alloc (.cells #[.int .i64 bf, .int .i64 bt, .int .i64 bm] 27)).cell? ⟨gx, 2, none⟩ = some (.int .i64 bm) := ⟨((below_alloc (Below.refl _ V.drew) (.cells #[.int .i64 bf, .int .i64 bt, .int .i64 bm] 27)).cell (World.block_lt_of_cell? _ _ hS0.1)).trans hS0.1, ((below_alloc (Below.refl _ V.drew) (.cells #[.int .i64 bf, .int .i64 bt, .int .i64 bm] 27)).cell (World.block_lt_of_cell? _ _ hS0.2.1)).trans hS0.2.1, ((below_alloc (Below.refl _ V.drew) (.cells #[.int .i64 bf, .int .i64 bt, .int .i64 bm] 27)).cell (World.block_lt_of_cell? _ _ hS0.2.2.1)).trans hS0.2.2.1, ((below_alloc (Below.refl _ V.drew) (.cells #[.int .i64 bf, .int .i64 bt, .int .i64 bm] 27)).cell (World.block_lt_of_cell? _ _ hS0.2.2.2)).trans hS0.2.2.2⟩
      have HPa := Aside0.mk (HPr.out.below (below_step HAL.out (below_drew1 (Below.refl _ V))))
      have HPb := Aside0.mk (HPa.out.below (below_alloc (Below.refl _ V.drew) (.cells #[.int .i64 bf, .int .i64 bt, .int .i64 bm] 27)))
      have HLb := Aside0.mk (blk_new V.drew (.cells #[.int .i64 bf, .int .i64 bt, .int .i64 bm] 27))
      have HN := Aside0.mk (bindsL_len HK.out)
      obtain ⟨t, i2, he, hcase⟩ := HER.out
      have HE := Aside0.mk he
      have HIA : Aside0 (∀ x ∈ bindsL R E ++ [(⟨bf, bt, bm⟩ : S27)], InB E.length x) := ⟨by
        intro x hx
        rcases List.mem_append.1 hx with hx | hx
        · exact bindsL_in HK.out x hx
        · rw [List.mem_singleton.1 hx]; exact HIN.out⟩
      have HCS := Aside0.mk hcase
      have hlen : (bindsL R E).length + [(⟨bf, bt, bm⟩ : S27)].length < 1000000 := by have := HN.out; simp; omega
      have hlen2 : (bindsL R E ++ [(⟨bf, bt, bm⟩ : S27)]).length ≤ 1000000 := by have := HN.out; simp; omega
      have HLN1 := Aside0.mk hlen
      have HLN2 := Aside0.mk hlen2
      clear he hcase hlen hlen2 HER
      go_region_held3 (fun w' => w'.cell? ⟨g, 1, none⟩ = some (.slice A1 E.length c1) ∧ w'.cell? ⟨gx, 0, none⟩ = some (.int .i64 bf) ∧ w'.cell? ⟨gx, 1, none⟩ = some (.int .i64 bt) ∧ w'.cell? ⟨gx, 2, none⟩ = some (.int .i64 bm)) ((first | exact hS0 | exact hS0b | exact hS1 | exact hS1a | exact hS5 | exact hS6))
        ((first
        | (go_at_call 62; refine (binds_any g R E V.drew HPa.out HK.out.toEvsOK).mono ?_; rintro e w4 ⟨v4, rfl, hO⟩; have HOx := Aside0.mk (hO.below (below_alloc (Below.refl _ w4) (.cells #[.int .i64 bf, .int .i64 bt, .int .i64 bm] 27))); have hS1 : w4.cell? ⟨g, 1, none⟩ = some (.slice A1 E.length c1) ∧ w4.cell? ⟨gx, 0, none⟩ = some (.int .i64 bf) ∧ w4.cell? ⟨gx, 1, none⟩ = some (.int .i64 bt) ∧ w4.cell? ⟨gx, 2, none⟩ = some (.int .i64 bm) := ⟨(hO.2.cell (World.block_lt_of_cell? _ _ hS0.1)).trans hS0.1, (hO.2.cell (World.block_lt_of_cell? _ _ hS0.2.1)).trans hS0.2.1, (hO.2.cell (World.block_lt_of_cell? _ _ hS0.2.2.1)).trans hS0.2.2.1, (hO.2.cell (World.block_lt_of_cell? _ _ hS0.2.2.2)).trans hS0.2.2.2⟩; have hS1a : (w4.alloc (.cells #[.int .i64 bf, .int .i64 bt, .int .i64 bm] 27)).cell? ⟨g, 1, none⟩ = some (.slice A1 E.length c1) ∧ (w4.alloc (.cells #[.int .i64 bf, .int .i64 bt, .int .i64 bm] 27)).cell? ⟨gx, 0, none⟩ = some (.int .i64 bf) ∧ (w4.alloc (.cells #[.int .i64 bf, .int .i64 bt, .int .i64 bm] 27)).cell? ⟨gx, 1, none⟩ = some (.int .i64 bt) ∧ (w4.alloc (.cells #[.int .i64 bf, .int .i64 bt, .int .i64 bm] 27)).cell? ⟨gx, 2, none⟩ = some (.int .i64 bm) := ⟨((below_alloc (Below.refl _ w4) (.cells #[.int .i64 bf, .int .i64 bt, .int .i64 bm] 27)).cell (World.block_lt_of_cell? _ _ hS1.1)).trans hS1.1, ((below_alloc (Below.refl _ w4) (.cells #[.int .i64 bf, .int .i64 bt, .int .i64 bm] 27)).cell (World.block_lt_of_cell? _ _ hS1.2.1)).trans hS1.2.1, ((below_alloc (Below.refl _ w4) (.cells #[.int .i64 bf, .int .i64 bt, .int .i64 bm] 27)).cell (World.block_lt_of_cell? _ _ hS1.2.2.1)).trans hS1.2.2.1, ((below_alloc (Below.refl _ w4) (.cells #[.int .i64 bf, .int .i64 bt, .int .i64 bm] 27)).cell (World.block_lt_of_cell? _ _ hS1.2.2.2)).trans hS1.2.2.2⟩; have HLx := Aside0.mk (blk_new w4 (.cells #[.int .i64 bf, .int .i64 bt, .int .i64 bm] 27)); have HBS := Aside0.mk (Below.refl V.drew.heap.size V.drew); clear hO)
        | (go_at_call 62; refine (binds_any g R E (V.drew.alloc (.cells #[.int .i64 bf, .int .i64 bt, .int .i64 bm] 27)) HPb.out HK.out.toEvsOK).mono ?_; rintro e w4 ⟨v4, rfl, hO⟩; have HOx := Aside0.mk hO; have hS1 : w4.cell? ⟨g, 1, none⟩ = some (.slice A1 E.length c1) ∧ w4.cell? ⟨gx, 0, none⟩ = some (.int .i64 bf) ∧ w4.cell? ⟨gx, 1, none⟩ = some (.int .i64 bt) ∧ w4.cell? ⟨gx, 2, none⟩ = some (.int .i64 bm) := ⟨(hO.2.cell (World.block_lt_of_cell? _ _ hS0b.1)).trans hS0b.1, (hO.2.cell (World.block_lt_of_cell? _ _ hS0b.2.1)).trans hS0b.2.1, (hO.2.cell (World.block_lt_of_cell? _ _ hS0b.2.2.1)).trans hS0b.2.2.1, (hO.2.cell (World.block_lt_of_cell? _ _ hS0b.2.2.2)).trans hS0b.2.2.2⟩; have HLx := Aside0.mk (blk_below HLb.out hO.2); have HBS := Aside0.mk (below_alloc (Below.refl V.drew.heap.size V.drew) (.cells #[.int .i64 bf, .int .i64 bt, .int .i64 bm] 27)); clear hO)
        | (refine out_append_step (by rfl) (.tmp 19) (.tmp 21) rfl v4 _ (bindsL R E) [(⟨bf, bt, bm⟩ : S27)] rfl rfl HOx.out (lit1 HLx.out) HLN1.out ?_; intro v5 w5 hT5 hg5; have HT5 := Aside0.mk hT5; have HB5 := Aside0.mk (below_step HBS.out hT5.2); have hS5 : w5.cell? ⟨g, 1, none⟩ = some (.slice A1 E.length c1) ∧ w5.cell? ⟨gx, 0, none⟩ = some (.int .i64 bf) ∧ w5.cell? ⟨gx, 1, none⟩ = some (.int .i64 bt) ∧ w5.cell? ⟨gx, 2, none⟩ = some (.int .i64 bm) := ⟨((below_step HBS.out hT5.2).cell (World.block_lt_of_cell? _ _ hS0.1)).trans hS0.1, ((below_step HBS.out hT5.2).cell (World.block_lt_of_cell? _ _ hS0.2.1)).trans hS0.2.1, ((below_step HBS.out hT5.2).cell (World.block_lt_of_cell? _ _ hS0.2.2.1)).trans hS0.2.2.1, ((below_step HBS.out hT5.2).cell (World.block_lt_of_cell? _ _ hS0.2.2.2)).trans hS0.2.2.2⟩; clear hT5 hg5)
        | (go_at_call 75; refine (earliest_bs _ E.length _ _ _ HT5.out HK.out.pos HK.out.len HLN2.out HIA.out t i2 HE.out).mono ?_; rintro e w6 ⟨v6, rfl, hO6⟩; have HO6 := Aside0.mk (hO6.lift HB5.out); have hS6 : w6.cell? ⟨g, 1, none⟩ = some (.slice A1 E.length c1) ∧ w6.cell? ⟨gx, 0, none⟩ = some (.int .i64 bf) ∧ w6.cell? ⟨gx, 1, none⟩ = some (.int .i64 bt) ∧ w6.cell? ⟨gx, 2, none⟩ = some (.int .i64 bm) := ⟨(hO6.2.cell (World.block_lt_of_cell? _ _ hS5.1)).trans hS5.1, (hO6.2.cell (World.block_lt_of_cell? _ _ hS5.2.1)).trans hS5.2.1, (hO6.2.cell (World.block_lt_of_cell? _ _ hS5.2.2.1)).trans hS5.2.2.1, (hO6.2.cell (World.block_lt_of_cell? _ _ hS5.2.2.2)).trans hS5.2.2.2⟩; clear hO6)))
      all_goals
        have HW6 := Aside0.mk (below_step HAL.out (below_step (below_drew1 (Below.refl _ V)) HO6.out.2))
        have hcs := HCS.out
        clear hS0 hS0b hS1 hS5 hS6 y0 y1 y2 x1
        try clear hS1a
        rcases hcs with ⟨rfl, rfl, rfl⟩ | ⟨rfl, hG⟩
        · go_wp2_with fail
          go_ret2
          exact ⟨_, rfl, HO6.out.lift (below_step HB3.out (below_step HW.out (below_step HAL.out (below_drew1 (Below.refl _ V)))))⟩
        · have HG := Aside0.mk hG
          clear hG HCS
          go_wp2_with fail
          go_roundw
          case rel => exact ⟨j + 1, by go_num, by omega, ⟨below_step HW.out HW6.out⟩, HG⟩
          case measure => simp [intOf]; omega
    · have hltb : decide ((j : Int) < (L.length : Int)) = false := by simpa using hlt
      have hje : j = L.length := by omega
      rw [hje, List.drop_length, breachGo] at hG
      simp only [Option.some.injEq, Prod.mk.injEq] at hG
      obtain ⟨rfl, rfl⟩ := hG
      go_wp2_with fail
      go_ret2
      exact ⟨_, rfl, Kd.R_nil _ _ _ _ _, below_step HB3.out HW.out⟩
end Go.Proofs.Ytlfopemghafboaa.D
