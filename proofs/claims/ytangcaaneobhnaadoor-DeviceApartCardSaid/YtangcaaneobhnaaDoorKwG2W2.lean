/- Own work: a part of the proofs of this seat. -/
import Derived.Test.YtangcaaneobhnaaDoorProg
import Derived.Test.YtangcaaneobhnaaDoorShelf
import Derived.Test.YtangcaaneobhnaaDoorKwG2S
import Derived.KernelRfl
import Derived.Test.YtangcaaneobhnaaDoorKwG2W1
set_option linter.unusedVariables false
set_option linter.unusedSimpArgs false
set_option linter.unusedSectionVars false
set_option maxHeartbeats 8000000
namespace Go.Proofs
namespace YtangcaaneobhnaaDoor
open Go Go.KW Go.KW.S Go.RowKit
theorem law37_live_ok (w0 : World) (hg : Gs w0) {ρA : Tags} (hbd : ∀ b, ρA b ≠ 0 → b < w0.heap.size) (hz : Gz ρA) {r : Bool} (hS : law37_live = some r) :
    Calls Tryd.prog 8 #[] w0 (Ret (fun v w' => v = .bool r ∧ Below w0.heap.size w0 w')) := by
  unfold law37_live at hS
  have hb := flat1_fr (ρ := ρA) (w := w0) hbd
  have hz := hz.flat1
  refine calls_of_ke Tryd.func8 rfl (n := 99) rfl rfl (l := []) rfl ?_
  refine ke_seq ?_
  refine ke_region ?_
  refine sr_ev (v := .bool false) (ev_assign rfl) (by decide) ?_
  refine sr_end (l' := []) (.nil _) ?_
  refine ke_seq ?_
  refine ke_region ?_
  obtain ⟨y1, hy2, hS⟩ := bind_some' hS
  refine sr_call (vs := []) rfl Tryd.call16 rfl (device_New_ok _ (hg.fr hz hb) (ρA := (flat1 ρA)) hb.bd (hz.fr hg hb) (o := 100) (by decide) hy2) (by decide) ?_
  rintro _ w3 ⟨ρ10, g6, rfl, ⟨v7, hB9, h8⟩, htr5⟩
  replace hb := hb.trans htr5
  replace hB9 : Blk ρ10 100 w3 g6 (.cells #[v7, .int .i64 y1.given] 62 (0, 0)) := hB9
  replace h8 : MapT device_key.ek device_record.c true ρ10 101 w3 v7 y1.records := h8
  refine sr_ev (v := .pointer (some ⟨g6, 0, none⟩)) (ev_assign rfl) (by decide) ?_
  refine sr_end (l' := [(1, .pointer (some ⟨g6, 0, none⟩))]) (.cons rfl (.nil _)) ?_
  refine ke_seq ?_
  refine ke_seq ?_
  refine ke_region ?_
  refine sr_ev (v := .pointer (some ⟨g6, 0, none⟩)) (ev_move rfl) (by decide) ?_
  refine sr_ev (v := .bool false) (ev_peqT_some Tryd.underlying27 rfl rfl) (by decide) ?_
  refine sr_end (l' := [(1, .pointer (some ⟨g6, 0, none⟩)), (13, .bool false)]) (.cons rfl (.cons rfl (.nil _))) ?_
  refine ke_cond (t := false) rfl (fun h => by cases h) (fun _ => ?_)
  refine ke_skip ?_
  refine ke_seq ?_
  refine ke_region ?_
  refine sr_ev (v := .pointer (some ⟨g6, 0, none⟩)) (ev_move rfl) (by decide) ?_
  obtain ⟨y11, hy12, hS⟩ := bind_some' hS
  refine sr_call (vs := [.pointer (some ⟨g6, 0, none⟩), str ([117]), str ([100]), .int .i64 5]) rfl Tryd.call12 rfl (device_Devices_Challenge_ok _ (hg.fr hz hb) (ρA := ρ10) hb.bd (hz.fr hg hb) (o := 100) (by decide) (⟨_, hB9, h8⟩ : device_Devices.O (fun p => 100 + p) ρ10 w3 g6 y1) hy12) (by decide) ?_
  rintro _ w13 ⟨ρ19, rfl, ⟨v16, hB18, h17⟩, htr15⟩
  replace hb := hb.trans htr15
  replace hB18 : Blk ρ19 100 w13 g6 (.cells #[v16, .int .i64 y11.2.2.given] 62 (0, 0)) := hB18
  replace h17 : MapT device_key.ek device_record.c true ρ19 101 w13 v16 y11.2.2.records := h17
  refine sr_ev (v := .tuple #[str y11.1, .int .i64 y11.2.1]) (ev_move rfl) (by decide) ?_
  refine sr_ev (v := str y11.1) (ev_extract rfl rfl) (by decide) ?_
  refine sr_ev (v := .int .i64 y11.2.1) (ev_extract rfl rfl) (by decide) ?_
  refine sr_ev (v := str y11.1) (ev_assign rfl) (by decide) ?_
  refine sr_ev (v := .int .i64 y11.2.1) (ev_assign rfl) (by decide) ?_
  refine sr_end (l' := [(1, .pointer (some ⟨g6, 0, none⟩)), (3, .int .i64 y11.2.1)]) (.cons rfl (.cons rfl (.nil _))) ?_
  refine ke_seq ?_
  refine ke_region ?_
  refine sr_ev (v := .pointer (some ⟨g6, 0, none⟩)) (ev_move rfl) (by decide) ?_
  obtain ⟨y20, hy21, hS⟩ := bind_some' hS
  refine sr_call (vs := [.pointer (some ⟨g6, 0, none⟩), str ([117]), str ([100]), str ([115]), .int .i64 100, .int .i64 5]) rfl Tryd.call17 rfl (device_Devices_Trust_ok _ (hg.fr hz hb) (ρA := ρ19) hb.bd (hz.fr hg hb) (o := 100) (by decide) (⟨_, hB18, h17⟩ : device_Devices.O (fun p => 100 + p) ρ19 w13 g6 y11.2.2) hy21) (by decide) ?_
  rintro _ w22 ⟨ρ28, rfl, ⟨v25, hB27, h26⟩, htr24⟩
  replace hb := hb.trans htr24
  replace hB27 : Blk ρ28 100 w22 g6 (.cells #[v25, .int .i64 y20.2.given] 62 (0, 0)) := hB27
  replace h26 : MapT device_key.ek device_record.c true ρ28 101 w22 v25 y20.2.records := h26
  refine sr_ev (v := .int .i64 y20.1) (ev_assign rfl) (by decide) ?_
  refine sr_end (l' := [(1, .pointer (some ⟨g6, 0, none⟩)), (3, .int .i64 y11.2.1), (4, .int .i64 y20.1)]) (.cons rfl (.cons rfl (.cons rfl (.nil _)))) ?_
  refine ke_seq ?_
  refine ke_region ?_
  refine sr_ev (v := .pointer (some ⟨g6, 0, none⟩)) (ev_move rfl) (by decide) ?_
  obtain ⟨y29, hy30, hS⟩ := bind_some' hS
  refine sr_call (vs := [.pointer (some ⟨g6, 0, none⟩), str ([117]), str ([100]), str ([115]), .int .i64 50, .int .i64 5]) rfl Tryd.call17 rfl (device_Devices_Trust_ok _ (hg.fr hz hb) (ρA := ρ28) hb.bd (hz.fr hg hb) (o := 100) (by decide) (⟨_, hB27, h26⟩ : device_Devices.O (fun p => 100 + p) ρ28 w22 g6 y20.2) hy30) (by decide) ?_
  rintro _ w31 ⟨ρ37, rfl, ⟨v34, hB36, h35⟩, htr33⟩
  replace hb := hb.trans htr33
  replace hB36 : Blk ρ37 100 w31 g6 (.cells #[v34, .int .i64 y29.2.given] 62 (0, 0)) := hB36
  replace h35 : MapT device_key.ek device_record.c true ρ37 101 w31 v34 y29.2.records := h35
  refine sr_ev (v := .int .i64 y29.1) (ev_assign rfl) (by decide) ?_
  refine sr_end (l' := [(1, .pointer (some ⟨g6, 0, none⟩)), (3, .int .i64 y11.2.1), (4, .int .i64 y20.1), (5, .int .i64 y29.1)]) (.cons rfl (.cons rfl (.cons rfl (.cons rfl (.nil _))))) ?_
  refine ke_seq ?_
  refine ke_region ?_
  refine sr_ev (v := .pointer (some ⟨g6, 0, none⟩)) (ev_move rfl) (by decide) ?_
  obtain ⟨y38, hy39, hS⟩ := bind_some' hS
  refine sr_call (vs := [.pointer (some ⟨g6, 0, none⟩), str ([117]), str ([100]), .int .i64 99]) rfl Tryd.call12 rfl (device_Devices_Challenge_ok _ (hg.fr hz hb) (ρA := ρ37) hb.bd (hz.fr hg hb) (o := 100) (by decide) (⟨_, hB36, h35⟩ : device_Devices.O (fun p => 100 + p) ρ37 w31 g6 y29.2) hy39) (by decide) ?_
  rintro _ w40 ⟨ρ46, rfl, ⟨v43, hB45, h44⟩, htr42⟩
  replace hb := hb.trans htr42
  replace hB45 : Blk ρ46 100 w40 g6 (.cells #[v43, .int .i64 y38.2.2.given] 62 (0, 0)) := hB45
  replace h44 : MapT device_key.ek device_record.c true ρ46 101 w40 v43 y38.2.2.records := h44
  refine sr_ev (v := .tuple #[str y38.1, .int .i64 y38.2.1]) (ev_move rfl) (by decide) ?_
  refine sr_ev (v := str y38.1) (ev_extract rfl rfl) (by decide) ?_
  refine sr_ev (v := .int .i64 y38.2.1) (ev_extract rfl rfl) (by decide) ?_
  refine sr_ev (v := str y38.1) (ev_assign rfl) (by decide) ?_
  refine sr_ev (v := .int .i64 y38.2.1) (ev_assign rfl) (by decide) ?_
  refine sr_end (l' := [(1, .pointer (some ⟨g6, 0, none⟩)), (3, .int .i64 y11.2.1), (4, .int .i64 y20.1), (5, .int .i64 y29.1), (6, str y38.1), (7, .int .i64 y38.2.1)]) (.cons rfl (.cons rfl (.cons rfl (.cons rfl (.cons rfl (.cons rfl (.nil _))))))) ?_
  refine ke_seq ?_
  refine ke_region ?_
  refine sr_ev (v := .pointer (some ⟨g6, 0, none⟩)) (ev_move rfl) (by decide) ?_
  refine sr_ev (v := str y38.1) (ev_move rfl) (by decide) ?_
  obtain ⟨y47, hy48, hS⟩ := bind_some' hS
  refine sr_call (vs := [str ([115]), str y38.1]) rfl Tryd.call14 rfl (device_Answer_ok _ (hg.fr hz hb) hy48) (by decide) ?_
  rintro _ w49 ⟨rfl, hbw50⟩
  have htr51 := Tr.of_below hbw50 hb.bd
  replace hB45 := hB45.mv (htr51.mv (i := 100) rfl)
  replace h44 := h44.mv (htr51.mv (i := 101) rfl)
  replace hb := hb.trans htr51
  obtain ⟨y52, hy53, hS⟩ := bind_some' hS
  refine sr_call (vs := [.pointer (some ⟨g6, 0, none⟩), str ([117]), str ([100]), str y47, .int .i64 99]) rfl Tryd.call15 rfl (device_Devices_Prove_ok _ (hg.fr hz hb) (ρA := ρ46) hb.bd (hz.fr hg hb) (o := 100) (by decide) (⟨_, hB45, h44⟩ : device_Devices.O (fun p => 100 + p) ρ46 w49 g6 y38.2.2) hy53) (by decide) ?_
  rintro _ w54 ⟨ρ60, rfl, ⟨v57, hB59, h58⟩, htr56⟩
  replace hb := hb.trans htr56
  replace hB59 : Blk ρ60 100 w54 g6 (.cells #[v57, .int .i64 y52.2.given] 62 (0, 0)) := hB59
  replace h58 : MapT device_key.ek device_record.c true ρ60 101 w54 v57 y52.2.records := h58
  refine sr_ev (v := .int .i64 y52.1) (ev_assign rfl) (by decide) ?_
  refine sr_end (l' := [(1, .pointer (some ⟨g6, 0, none⟩)), (3, .int .i64 y11.2.1), (4, .int .i64 y20.1), (5, .int .i64 y29.1), (6, str y38.1), (7, .int .i64 y38.2.1), (8, .int .i64 y52.1)]) (.cons rfl (.cons rfl (.cons rfl (.cons rfl (.cons rfl (.cons rfl (.cons rfl (.nil _)))))))) ?_
  refine ke_seq ?_
  refine ke_region ?_
  refine sr_ev (v := .pointer (some ⟨g6, 0, none⟩)) (ev_move rfl) (by decide) ?_
  refine sr_ev (v := str y38.1) (ev_move rfl) (by decide) ?_
  obtain ⟨y61, hy62, hS⟩ := bind_some' hS
  refine sr_call (vs := [str ([115]), str y38.1]) rfl Tryd.call14 rfl (device_Answer_ok _ (hg.fr hz hb) hy62) (by decide) ?_
  rintro _ w63 ⟨rfl, hbw64⟩
  have htr65 := Tr.of_below hbw64 hb.bd
  replace hB59 := hB59.mv (htr65.mv (i := 100) rfl)
  replace h58 := h58.mv (htr65.mv (i := 101) rfl)
  replace hb := hb.trans htr65
  obtain ⟨y66, hy67, hS⟩ := bind_some' hS
  refine sr_call (vs := [.pointer (some ⟨g6, 0, none⟩), str ([117]), str ([100]), str y61, .int .i64 99]) rfl Tryd.call15 rfl (device_Devices_Prove_ok _ (hg.fr hz hb) (ρA := ρ60) hb.bd (hz.fr hg hb) (o := 100) (by decide) (⟨_, hB59, h58⟩ : device_Devices.O (fun p => 100 + p) ρ60 w63 g6 y52.2) hy67) (by decide) ?_
  rintro _ w68 ⟨ρ74, rfl, ⟨v71, hB73, h72⟩, htr70⟩
  replace hb := hb.trans htr70
  replace hB73 : Blk ρ74 100 w68 g6 (.cells #[v71, .int .i64 y66.2.given] 62 (0, 0)) := hB73
  replace h72 : MapT device_key.ek device_record.c true ρ74 101 w68 v71 y66.2.records := h72
  refine sr_ev (v := .int .i64 y66.1) (ev_assign rfl) (by decide) ?_
  refine sr_end (l' := [(1, .pointer (some ⟨g6, 0, none⟩)), (3, .int .i64 y11.2.1), (4, .int .i64 y20.1), (5, .int .i64 y29.1), (6, str y38.1), (7, .int .i64 y38.2.1), (8, .int .i64 y52.1), (9, .int .i64 y66.1)]) (.cons rfl (.cons rfl (.cons rfl (.cons rfl (.cons rfl (.cons rfl (.cons rfl (.cons rfl (.nil _))))))))) ?_
  refine ke_seq ?_
  refine ke_region ?_
  refine sr_ev (v := .pointer (some ⟨g6, 0, none⟩)) (ev_move rfl) (by decide) ?_
  obtain ⟨y75, hy76, hS⟩ := bind_some' hS
  refine sr_call (vs := [.pointer (some ⟨g6, 0, none⟩), str ([117]), str ([100]), str ([115]), .int .i64 5, .int .i64 5]) rfl Tryd.call17 rfl (device_Devices_Trust_ok _ (hg.fr hz hb) (ρA := ρ74) hb.bd (hz.fr hg hb) (o := 100) (by decide) (⟨_, hB73, h72⟩ : device_Devices.O (fun p => 100 + p) ρ74 w68 g6 y66.2) hy76) (by decide) ?_
  rintro _ w77 ⟨ρ83, rfl, ⟨v80, hB82, h81⟩, htr79⟩
  replace hb := hb.trans htr79
  replace hB82 : Blk ρ83 100 w77 g6 (.cells #[v80, .int .i64 y75.2.given] 62 (0, 0)) := hB82
  replace h81 : MapT device_key.ek device_record.c true ρ83 101 w77 v80 y75.2.records := h81
  refine sr_ev (v := .int .i64 y75.1) (ev_assign rfl) (by decide) ?_
  refine sr_end (l' := [(1, .pointer (some ⟨g6, 0, none⟩)), (3, .int .i64 y11.2.1), (4, .int .i64 y20.1), (5, .int .i64 y29.1), (6, str y38.1), (7, .int .i64 y38.2.1), (8, .int .i64 y52.1), (9, .int .i64 y66.1), (10, .int .i64 y75.1)]) (.cons rfl (.cons rfl (.cons rfl (.cons rfl (.cons rfl (.cons rfl (.cons rfl (.cons rfl (.cons rfl (.nil _)))))))))) ?_
  refine ke_seq ?_
  refine ke_region ?_
  refine sr_ev (v := .int .i64 y11.2.1) (ev_move rfl) (by decide) ?_
  refine sr_ev (v := .bool (y11.2.1 == 6)) (ev_eq rfl rfl) (by decide) ?_
  refine sr_ev (v := .bool (y11.2.1 == 6)) (ev_move rfl) (by decide) ?_
  refine sr_join (m := 3) (C := fun (x : Bool) w1 => x = ((y11.2.1 == 6) && (y20.1 == 0)) ∧ w77 = w1) (l' := fun x => [(1, .pointer (some ⟨g6, 0, none⟩)), (5, .int .i64 y29.1), (6, str y38.1), (7, .int .i64 y38.2.1), (8, .int .i64 y52.1), (9, .int .i64 y66.1), (10, .int .i64 y75.1), (43, .bool x)]) ?_ ?_
  · rintro _ _ ⟨rfl, rfl⟩
    refine sr_ev (v := .bool ((y11.2.1 == 6) && (y20.1 == 0))) (ev_move rfl) (by decide) ?_
    refine sr_join (m := 3) (C := fun (x : Bool) w1 => x = (((y11.2.1 == 6) && (y20.1 == 0)) && (y29.1 == 0)) ∧ w77 = w1) (l' := fun x => [(1, .pointer (some ⟨g6, 0, none⟩)), (6, str y38.1), (7, .int .i64 y38.2.1), (8, .int .i64 y52.1), (9, .int .i64 y66.1), (10, .int .i64 y75.1), (47, .bool x)]) ?_ ?_
    · rintro _ _ ⟨rfl, rfl⟩
      refine sr_ev (v := .bool (((y11.2.1 == 6) && (y20.1 == 0)) && (y29.1 == 0))) (ev_move rfl) (by decide) ?_
      refine sr_join (m := 3) (C := fun (x : Bool) w1 => x = ((((y11.2.1 == 6) && (y20.1 == 0)) && (y29.1 == 0)) && (y38.2.1 == 0)) ∧ w77 = w1) (l' := fun x => [(1, .pointer (some ⟨g6, 0, none⟩)), (6, str y38.1), (8, .int .i64 y52.1), (9, .int .i64 y66.1), (10, .int .i64 y75.1), (51, .bool x)]) ?_ ?_
      · rintro _ _ ⟨rfl, rfl⟩
        refine sr_ev (v := .bool ((((y11.2.1 == 6) && (y20.1 == 0)) && (y29.1 == 0)) && (y38.2.1 == 0))) (ev_move rfl) (by decide) ?_
        obtain ⟨z110, hz112, hS⟩ := bind_some' hS
        refine sr_join (m := 4) (C := fun (z : Bool) w1 => z110 = z ∧ ∃ ρ1, Tr ρ83 w77 (fun _ => false) ρ1 w1) (l' := fun z => [(1, .pointer (some ⟨g6, 0, none⟩)), (8, .int .i64 y52.1), (9, .int .i64 y66.1), (10, .int .i64 y75.1), (56, .bool z)]) ?_ ?_
        · rintro _ w113 ⟨rfl, ρ114, hj111⟩
          replace hB82 := hB82.mv (hj111.mv (i := 100) rfl)
          replace h81 := h81.mv (hj111.mv (i := 101) rfl)
          replace hb := hb.trans hj111
          refine sr_ev (v := .bool z110) (ev_move rfl) (by decide) ?_
          refine sr_join (m := 3) (C := fun (x : Bool) w1 => x = (z110 && (y52.1 == 0)) ∧ w113 = w1) (l' := fun x => [(1, .pointer (some ⟨g6, 0, none⟩)), (9, .int .i64 y66.1), (10, .int .i64 y75.1), (60, .bool x)]) ?_ ?_
          · rintro _ _ ⟨rfl, rfl⟩
            refine sr_ev (v := .bool (z110 && (y52.1 == 0))) (ev_move rfl) (by decide) ?_
            refine sr_join (m := 3) (C := fun (x : Bool) w1 => x = ((z110 && (y52.1 == 0)) && (y66.1 == 12)) ∧ w113 = w1) (l' := fun x => [(1, .pointer (some ⟨g6, 0, none⟩)), (10, .int .i64 y75.1), (64, .bool x)]) ?_ ?_
            · rintro _ _ ⟨rfl, rfl⟩
              refine sr_ev (v := .bool ((z110 && (y52.1 == 0)) && (y66.1 == 12))) (ev_move rfl) (by decide) ?_
              refine sr_join (m := 3) (C := fun (x : Bool) w1 => x = (((z110 && (y52.1 == 0)) && (y66.1 == 12)) && (y75.1 == 13)) ∧ w113 = w1) (l' := fun x => [(1, .pointer (some ⟨g6, 0, none⟩)), (68, .bool x)]) ?_ ?_
              · rintro _ _ ⟨rfl, rfl⟩
                refine sr_ev (v := .bool (((z110 && (y52.1 == 0)) && (y66.1 == 12)) && (y75.1 == 13))) (ev_move rfl) (by decide) ?_
                obtain ⟨z147, hz149, hS⟩ := bind_some' hS
                refine sr_join (m := 3) (C := fun (z : Bool) w1 => z147 = z ∧ ∃ ρ1, Tr ρ114 w113 (fun _ => false) ρ1 w1) (l' := fun z => [(1, .pointer (some ⟨g6, 0, none⟩)), (72, .bool z)]) ?_ ?_
                · rintro _ w150 ⟨rfl, ρ151, hj148⟩
                  replace hB82 := hB82.mv (hj148.mv (i := 100) rfl)
                  replace h81 := h81.mv (hj148.mv (i := 101) rfl)
                  replace hb := hb.trans hj148
                  refine sr_ev (v := .bool z147) (ev_move rfl) (by decide) ?_
                  obtain ⟨z160, hz162, hS⟩ := bind_some' hS
                  refine sr_join (m := 4) (C := fun (z : Bool) w1 => z160 = z ∧ ∃ ρ1, Tr ρ151 w150 (fun _ => false) ρ1 w1) (l' := fun z => [(1, .pointer (some ⟨g6, 0, none⟩)), (77, .bool z)]) ?_ ?_
                  · rintro _ w163 ⟨rfl, ρ164, hj161⟩
                    replace hB82 := hB82.mv (hj161.mv (i := 100) rfl)
                    replace h81 := h81.mv (hj161.mv (i := 101) rfl)
                    replace hb := hb.trans hj161
                    refine sr_ev (v := .bool z160) (ev_move rfl) (by decide) ?_
                    obtain ⟨z173, hz175, hS⟩ := bind_some' hS
                    refine sr_join (m := 5) (C := fun (z : Bool) w1 => z173 = z ∧ ∃ ρ1, Tr ρ164 w163 (fun _ => false) ρ1 w1) (l' := fun z => [(1, .pointer (some ⟨g6, 0, none⟩)), (83, .bool z)]) ?_ ?_
                    · rintro _ w176 ⟨rfl, ρ177, hj174⟩
                      replace hB82 := hB82.mv (hj174.mv (i := 100) rfl)
                      replace h81 := h81.mv (hj174.mv (i := 101) rfl)
                      replace hb := hb.trans hj174
                      refine sr_ev (v := .bool z173) (ev_move rfl) (by decide) ?_
                      obtain ⟨z198, hz200, hS⟩ := bind_some' hS
                      refine sr_join (m := 4) (C := fun (z : Bool × device_Devices) w1 => z198 = z ∧ ∃ ρ1, device_Devices.O (fun p => 100 + p) ρ1 w1 g6 z.2 ∧ Tr ρ177 w176 (fun t => ([100, 101] : List Nat).contains t) ρ1 w1) (l' := fun z => [(1, .pointer (some ⟨g6, 0, none⟩)), (88, .bool z.1)]) ?_ ?_
                      · rintro _ w201 ⟨rfl, ρ202, ⟨v213, hB215, h214⟩, hj199⟩
                        replace hb := hb.trans hj199
                        replace hB215 : Blk ρ202 100 w201 g6 (.cells #[v213, .int .i64 z198.2.given] 62 (0, 0)) := hB215
                        replace h214 : MapT device_key.ek device_record.c true ρ202 101 w201 v213 z198.2.records := h214
                        refine sr_ev (v := .bool z198.1) (ev_move rfl) (by decide) ?_
                        obtain ⟨z218, hz220, hS⟩ := bind_some' hS
                        refine sr_join (m := 4) (C := fun (z : Bool × device_Devices) w1 => z218 = z ∧ ∃ ρ1, device_Devices.O (fun p => 100 + p) ρ1 w1 g6 z.2 ∧ Tr ρ202 w201 (fun t => ([100, 101] : List Nat).contains t) ρ1 w1) (l' := fun z => [(93, .bool z.1)]) ?_ ?_
                        · rintro _ w221 ⟨rfl, ρ222, ⟨v233, hB235, h234⟩, hj219⟩
                          replace hb := hb.trans hj219
                          replace hB235 : Blk ρ222 100 w221 g6 (.cells #[v233, .int .i64 z218.2.given] 62 (0, 0)) := hB235
                          replace h234 : MapT device_key.ek device_record.c true ρ222 101 w221 v233 z218.2.records := h234
                          refine sr_ev (v := .bool z218.1) (ev_move rfl) (by decide) ?_
                          obtain ⟨z238, hz240, hS⟩ := bind_some' hS
                          refine sr_join (m := 4) (C := fun (z : Bool) w1 => z238 = z ∧ ∃ ρ1, Tr ρ222 w221 (fun _ => false) ρ1 w1) (l' := fun z => [(98, .bool z)]) ?_ ?_
                          · rintro _ w241 ⟨rfl, ρ242, hj239⟩
                            replace hb := hb.trans hj239
                            refine sr_ev (v := .bool z238) (ev_assign rfl) (by decide) ?_
                            refine sr_end (l' := [(0, .bool z238)]) (.cons rfl (.nil _)) ?_
                            cases hS
                            exact ke_ret1 Tryd.func8 rfl rfl ⟨_, rfl, rfl, (hb.below (flat1_le _))⟩
                          · intro K237
                            clear hS
                            have hj239 : Tr ρ222 w221 (fun _ => false) ρ222 w221 := (Tr.refl hb.bd).weak (fun _ _ => rfl) rfl rfl
                            rcases Bool.eq_false_or_eq_true z218.1 with hg236 | hg236
                            · have hS := ite_true' hz240 hg236
                              obtain ⟨y244, hy245, hS⟩ := bind_some' hS
                              refine sr_callg (b := true) (e := 94) rfl rfl hg236 (vs := [str ([115]), str ([99])]) rfl Tryd.call14 rfl (device_Answer_ok _ (hg.fr hz hb) hy245) (by decide) ?_
                              rintro _ w246 ⟨rfl, hbw247⟩
                              have htr248 := Tr.of_below hbw247 hb.bd
                              replace hb := hb.trans htr248
                              replace hj239 := (hj239.trans htr248).weak (J' := (fun _ => false)) (by intro t h; simp [rng] at h ⊢ <;> omega) rfl rfl
                              obtain ⟨y249, hy250, hS⟩ := bind_some' hS
                              refine sr_callg (b := true) (e := 94) rfl rfl hg236 (vs := [str ([115]), str ([99])]) rfl Tryd.call25 rfl (digest_Mac_ok _ (hg.fr hz hb) hy250) (by decide) ?_
                              rintro _ w251 ⟨rfl, hbw252⟩
                              have htr253 := Tr.of_below hbw252 hb.bd
                              replace hb := hb.trans htr253
                              replace hj239 := (hj239.trans htr253).weak (J' := (fun _ => false)) (by intro t h; simp [rng] at h ⊢ <;> omega) rfl rfl
                              refine sr_evg (b := true) (e := 94) rfl rfl hg236 (v := .bool (y244 == y249)) (ev_seq rfl rfl) (by decide) ?_
                              refine sr_ev (v := .bool (y244 == y249)) (ev_pick_t rfl hg236 rfl) (by decide) ?_
                              exact sr_weaken (l' := [(98, .bool (y244 == y249))]) (.cons rfl (.nil _)) (K237 (y244 == y249) _ ⟨(Option.some.inj hS).symm, _, hj239⟩)
                            · have hS := ite_false' hz240 hg236
                              refine sr_pass (e := 94) rfl rfl (by rw [hg236]; rfl) (by decide) ?_
                              refine sr_pass (e := 94) rfl rfl (by rw [hg236]; rfl) (by decide) ?_
                              refine sr_pass (e := 94) rfl rfl (by rw [hg236]; rfl) (by decide) ?_
                              refine sr_ev (v := .bool false) (ev_pick_f rfl hg236 rfl) (by decide) ?_
                              exact sr_weaken (l' := [(98, .bool false)]) (.cons rfl (.nil _)) (K237 false _ ⟨(Option.some.inj hS).symm, _, hj239⟩)
                        · intro K217
                          clear hS
                          have hj219 : Tr ρ202 w201 (fun t => ([100, 101] : List Nat).contains t) ρ202 w201 := (Tr.refl hb.bd).weak (fun _ _ => rfl) rfl rfl
                          rcases Bool.eq_false_or_eq_true z198.1 with hg216 | hg216
                          · have hS := ite_true' hz220 hg216
                            refine sr_evg (b := true) (e := 89) rfl rfl hg216 (v := .pointer (some ⟨g6, 0, none⟩)) (ev_move rfl) (by decide) ?_
                            obtain ⟨y224, hy225, hS⟩ := bind_some' hS
                            refine sr_callg (b := true) (e := 89) rfl rfl hg216 (vs := [.pointer (some ⟨g6, 0, none⟩), str ([117]), str ([100])]) rfl Tryd.call27 rfl (device_Devices_Revoke_ok _ (hg.fr hz hb) (ρA := ρ202) hb.bd (hz.fr hg hb) (o := 100) (by decide) (⟨_, hB215, h214⟩ : device_Devices.O (fun p => 100 + p) ρ202 w201 g6 z198.2) hy225) (by decide) ?_
                            rintro _ w226 ⟨ρ232, rfl, ⟨v229, hB231, h230⟩, htr228⟩
                            replace hb := hb.trans htr228
                            replace hj219 := (hj219.trans htr228).weak (J' := (fun t => ([100, 101] : List Nat).contains t)) (by intro t h; simp [rng] at h ⊢ <;> omega) rfl rfl
                            replace hB231 : Blk ρ232 100 w226 g6 (.cells #[v229, .int .i64 y224.2.given] 62 (0, 0)) := hB231
                            replace h230 : MapT device_key.ek device_record.c true ρ232 101 w226 v229 y224.2.records := h230
                            refine sr_evg (b := true) (e := 89) rfl rfl hg216 (v := .bool (!y224.1)) (ev_not rfl) (by decide) ?_
                            refine sr_ev (v := .bool (!y224.1)) (ev_pick_t rfl hg216 rfl) (by decide) ?_
                            exact sr_weaken (l' := [(93, .bool (!y224.1))]) (.cons rfl (.nil _)) (K217 (!y224.1, y224.2) _ ⟨(Option.some.inj hS).symm, _, ⟨_, hB231, h230⟩, hj219⟩)
                          · have hS := ite_false' hz220 hg216
                            refine sr_pass (e := 89) rfl rfl (by rw [hg216]; rfl) (by decide) ?_
                            refine sr_pass (e := 89) rfl rfl (by rw [hg216]; rfl) (by decide) ?_
                            refine sr_pass (e := 89) rfl rfl (by rw [hg216]; rfl) (by decide) ?_
                            refine sr_ev (v := .bool false) (ev_pick_f rfl hg216 rfl) (by decide) ?_
                            exact sr_weaken (l' := [(93, .bool false)]) (.cons rfl (.nil _)) (K217 (false, z198.2) _ ⟨(Option.some.inj hS).symm, _, ⟨_, hB215, h214⟩, hj219⟩)
                      · intro K197
                        clear hS
                        have hj199 : Tr ρ177 w176 (fun t => ([100, 101] : List Nat).contains t) ρ177 w176 := (Tr.refl hb.bd).weak (fun _ _ => rfl) rfl rfl
                        rcases Bool.eq_false_or_eq_true z173 with hg196 | hg196
                        · have hS := ite_true' hz200 hg196
                          refine sr_evg (b := true) (e := 84) rfl rfl hg196 (v := .pointer (some ⟨g6, 0, none⟩)) (ev_move rfl) (by decide) ?_
                          obtain ⟨y204, hy205, hS⟩ := bind_some' hS
                          refine sr_callg (b := true) (e := 84) rfl rfl hg196 (vs := [.pointer (some ⟨g6, 0, none⟩), str ([117])]) rfl Tryd.call24 rfl (device_Devices_Drop_ok _ (hg.fr hz hb) (ρA := ρ177) hb.bd (hz.fr hg hb) (o := 100) (by decide) (⟨_, hB82, h81⟩ : device_Devices.O (fun p => 100 + p) ρ177 w176 g6 y75.2) hy205) (by decide) ?_
                          rintro _ w206 ⟨ρ212, rfl, ⟨v209, hB211, h210⟩, htr208⟩
                          replace hb := hb.trans htr208
                          replace hj199 := (hj199.trans htr208).weak (J' := (fun t => ([100, 101] : List Nat).contains t)) (by intro t h; simp [rng] at h ⊢ <;> omega) rfl rfl
                          replace hB211 : Blk ρ212 100 w206 g6 (.cells #[v209, .int .i64 y204.2.given] 62 (0, 0)) := hB211
                          replace h210 : MapT device_key.ek device_record.c true ρ212 101 w206 v209 y204.2.records := h210
                          refine sr_evg (b := true) (e := 84) rfl rfl hg196 (v := .bool (y204.1 == 1)) (ev_eq rfl rfl) (by decide) ?_
                          refine sr_ev (v := .bool (y204.1 == 1)) (ev_pick_t rfl hg196 rfl) (by decide) ?_
                          exact sr_weaken (l' := [(1, .pointer (some ⟨g6, 0, none⟩)), (88, .bool (y204.1 == 1))]) (.cons rfl (.cons rfl (.nil _))) (K197 (y204.1 == 1, y204.2) _ ⟨(Option.some.inj hS).symm, _, ⟨_, hB211, h210⟩, hj199⟩)
                        · have hS := ite_false' hz200 hg196
                          refine sr_pass (e := 84) rfl rfl (by rw [hg196]; rfl) (by decide) ?_
                          refine sr_pass (e := 84) rfl rfl (by rw [hg196]; rfl) (by decide) ?_
                          refine sr_pass (e := 84) rfl rfl (by rw [hg196]; rfl) (by decide) ?_
                          refine sr_ev (v := .bool false) (ev_pick_f rfl hg196 rfl) (by decide) ?_
                          exact sr_weaken (l' := [(1, .pointer (some ⟨g6, 0, none⟩)), (88, .bool false)]) (.cons rfl (.cons rfl (.nil _))) (K197 (false, y75.2) _ ⟨(Option.some.inj hS).symm, _, ⟨_, hB82, h81⟩, hj199⟩)
                    · intro K172
                      clear hS
                      have hj174 : Tr ρ164 w163 (fun _ => false) ρ164 w163 := (Tr.refl hb.bd).weak (fun _ _ => rfl) rfl rfl
                      rcases Bool.eq_false_or_eq_true z160 with hg171 | hg171
                      · have hS := ite_true' hz175 hg171
                        refine sr_evg (b := true) (e := 78) rfl rfl hg171 (v := .pointer (some ⟨g6, 0, none⟩)) (ev_move rfl) (by decide) ?_
                        obtain ⟨y179, hy180, hS⟩ := bind_some' hS
                        refine sr_callg (b := true) (e := 78) rfl rfl hg171 (vs := [.pointer (some ⟨g6, 0, none⟩), str ([117]), .int .i64 99]) rfl Tryd.call23 rfl (device_Devices_List_ok _ (hg.fr hz hb) (ρA := ρ164) hb.bd (hz.fr hg hb) (τ0 := (fun p => 100 + p)) (fun p => Nat.le_add_right_of_le (by decide)) (⟨_, hB82, h81⟩ : device_Devices.O (fun p => 100 + p) ρ164 w163 g6 y75.2) hy180) (by decide) ?_
                        rintro v184 w181 ⟨_, rfl, h185, hbw182⟩
                        have htr183 := Tr.of_below hbw182 hb.bd
                        replace hB82 := hB82.mv (htr183.mv (i := 100) rfl)
                        replace h81 := h81.mv (htr183.mv (i := 101) rfl)
                        replace hb := hb.trans htr183
                        replace hj174 := (hj174.trans htr183).weak (J' := (fun _ => false)) (by intro t h; simp [rng] at h ⊢ <;> omega) rfl rfl
                        refine sr_unguard rfl rfl hg171 ?_
                        refine sr_litT (c := strC) (ρ := ρ164) (E := 9) (xs := [[100]]) (vs := #[(0, str ([100]))]) (cs := #[str ([100])]) (css := [[str ([100])]]) rfl (fun _ => by kernel_rfl) rfl ⟨rfl, trivial⟩ rfl (by decide) hb.bd (by decide) ?_
                        intro v186 w188 h187 hbw190
                        have htr189 := Tr.of_below hbw190 hb.bd
                        replace h185 := h185.mv htr189.rd
                        replace hB82 := hB82.mv (htr189.mv (i := 100) rfl)
                        replace h81 := h81.mv (htr189.mv (i := 101) rfl)
                        replace hb := hb.trans htr189
                        replace hj174 := (hj174.trans htr189).weak (J' := (fun _ => false)) (by intro t h; simp [rng] at h ⊢ <;> omega) rfl rfl
                        obtain ⟨y191, hy192, hS⟩ := bind_some' hS
                        refine sr_callg (b := true) (e := 78) rfl rfl hg171 (vs := [v184, v186]) rfl Tryd.call22 rfl (ref02_Same_ok _ (hg.fr hz hb) h185.asSl h187.asSl hy192) (by decide) ?_
                        rintro _ w193 ⟨rfl, hbw194⟩
                        have htr195 := Tr.of_below hbw194 hb.bd
                        replace hB82 := hB82.mv (htr195.mv (i := 100) rfl)
                        replace h81 := h81.mv (htr195.mv (i := 101) rfl)
                        replace hb := hb.trans htr195
                        replace hj174 := (hj174.trans htr195).weak (J' := (fun _ => false)) (by intro t h; simp [rng] at h ⊢ <;> omega) rfl rfl
                        refine sr_ev (v := .bool y191) (ev_pick_t rfl hg171 rfl) (by decide) ?_
                        exact sr_weaken (l' := [(1, .pointer (some ⟨g6, 0, none⟩)), (83, .bool y191)]) (.cons rfl (.cons rfl (.nil _))) (K172 y191 _ ⟨(Option.some.inj hS).symm, _, hj174⟩)
                      · have hS := ite_false' hz175 hg171
                        refine sr_pass (e := 78) rfl rfl (by rw [hg171]; rfl) (by decide) ?_
                        refine sr_pass (e := 78) rfl rfl (by rw [hg171]; rfl) (by decide) ?_
                        refine sr_pass (e := 78) rfl rfl (by rw [hg171]; rfl) (by decide) ?_
                        refine sr_pass (e := 78) rfl rfl (by rw [hg171]; rfl) (by decide) ?_
                        refine sr_ev (v := .bool false) (ev_pick_f rfl hg171 rfl) (by decide) ?_
                        exact sr_weaken (l' := [(1, .pointer (some ⟨g6, 0, none⟩)), (83, .bool false)]) (.cons rfl (.cons rfl (.nil _))) (K172 false _ ⟨(Option.some.inj hS).symm, _, hj174⟩)
                  · intro K159
                    clear hS
                    have hj161 : Tr ρ151 w150 (fun _ => false) ρ151 w150 := (Tr.refl hb.bd).weak (fun _ _ => rfl) rfl rfl
                    rcases Bool.eq_false_or_eq_true z147 with hg158 | hg158
                    · have hS := ite_true' hz162 hg158
                      refine sr_evg (b := true) (e := 73) rfl rfl hg158 (v := .pointer (some ⟨g6, 0, none⟩)) (ev_move rfl) (by decide) ?_
                      obtain ⟨y166, hy167, hS⟩ := bind_some' hS
                      refine sr_callg (b := true) (e := 73) rfl rfl hg158 (vs := [.pointer (some ⟨g6, 0, none⟩), str ([117]), str ([100]), .int .i64 100]) rfl Tryd.call13 rfl (device_Devices_Trusted_ok _ (hg.fr hz hb) (ρA := ρ151) hb.bd (hz.fr hg hb) (τ0 := (fun p => 100 + p)) (fun p => Nat.le_add_right_of_le (by decide)) (⟨_, hB82, h81⟩ : device_Devices.O (fun p => 100 + p) ρ151 w150 g6 y75.2) hy167) (by decide) ?_
                      rintro _ w168 ⟨rfl, hbw169⟩
                      have htr170 := Tr.of_below hbw169 hb.bd
                      replace hB82 := hB82.mv (htr170.mv (i := 100) rfl)
                      replace h81 := h81.mv (htr170.mv (i := 101) rfl)
                      replace hb := hb.trans htr170
                      replace hj161 := (hj161.trans htr170).weak (J' := (fun _ => false)) (by intro t h; simp [rng] at h ⊢ <;> omega) rfl rfl
                      refine sr_evg (b := true) (e := 73) rfl rfl hg158 (v := .bool (!y166)) (ev_not rfl) (by decide) ?_
                      refine sr_ev (v := .bool (!y166)) (ev_pick_t rfl hg158 rfl) (by decide) ?_
                      exact sr_weaken (l' := [(1, .pointer (some ⟨g6, 0, none⟩)), (77, .bool (!y166))]) (.cons rfl (.cons rfl (.nil _))) (K159 (!y166) _ ⟨(Option.some.inj hS).symm, _, hj161⟩)
                    · have hS := ite_false' hz162 hg158
                      refine sr_pass (e := 73) rfl rfl (by rw [hg158]; rfl) (by decide) ?_
                      refine sr_pass (e := 73) rfl rfl (by rw [hg158]; rfl) (by decide) ?_
                      refine sr_pass (e := 73) rfl rfl (by rw [hg158]; rfl) (by decide) ?_
                      refine sr_ev (v := .bool false) (ev_pick_f rfl hg158 rfl) (by decide) ?_
                      exact sr_weaken (l' := [(1, .pointer (some ⟨g6, 0, none⟩)), (77, .bool false)]) (.cons rfl (.cons rfl (.nil _))) (K159 false _ ⟨(Option.some.inj hS).symm, _, hj161⟩)
                · intro K146
                  clear hS
                  have hj148 : Tr ρ114 w113 (fun _ => false) ρ114 w113 := (Tr.refl hb.bd).weak (fun _ _ => rfl) rfl rfl
                  rcases Bool.eq_false_or_eq_true (((z110 && (y52.1 == 0)) && (y66.1 == 12)) && (y75.1 == 13)) with hg145 | hg145
                  · have hS := ite_true' hz149 hg145
                    refine sr_evg (b := true) (e := 69) rfl rfl hg145 (v := .pointer (some ⟨g6, 0, none⟩)) (ev_move rfl) (by decide) ?_
                    obtain ⟨y153, hy154, hS⟩ := bind_some' hS
                    refine sr_callg (b := true) (e := 69) rfl rfl hg145 (vs := [.pointer (some ⟨g6, 0, none⟩), str ([117]), str ([100]), .int .i64 99]) rfl Tryd.call13 rfl (device_Devices_Trusted_ok _ (hg.fr hz hb) (ρA := ρ114) hb.bd (hz.fr hg hb) (τ0 := (fun p => 100 + p)) (fun p => Nat.le_add_right_of_le (by decide)) (⟨_, hB82, h81⟩ : device_Devices.O (fun p => 100 + p) ρ114 w113 g6 y75.2) hy154) (by decide) ?_
                    rintro _ w155 ⟨rfl, hbw156⟩
                    have htr157 := Tr.of_below hbw156 hb.bd
                    replace hB82 := hB82.mv (htr157.mv (i := 100) rfl)
                    replace h81 := h81.mv (htr157.mv (i := 101) rfl)
                    replace hb := hb.trans htr157
                    replace hj148 := (hj148.trans htr157).weak (J' := (fun _ => false)) (by intro t h; simp [rng] at h ⊢ <;> omega) rfl rfl
                    refine sr_ev (v := .bool y153) (ev_pick_t rfl hg145 rfl) (by decide) ?_
                    exact sr_weaken (l' := [(1, .pointer (some ⟨g6, 0, none⟩)), (72, .bool y153)]) (.cons rfl (.cons rfl (.nil _))) (K146 y153 _ ⟨(Option.some.inj hS).symm, _, hj148⟩)
                  · have hS := ite_false' hz149 hg145
                    refine sr_pass (e := 69) rfl rfl (by rw [hg145]; rfl) (by decide) ?_
                    refine sr_pass (e := 69) rfl rfl (by rw [hg145]; rfl) (by decide) ?_
                    refine sr_ev (v := .bool false) (ev_pick_f rfl hg145 rfl) (by decide) ?_
                    exact sr_weaken (l' := [(1, .pointer (some ⟨g6, 0, none⟩)), (72, .bool false)]) (.cons rfl (.cons rfl (.nil _))) (K146 false _ ⟨(Option.some.inj hS).symm, _, hj148⟩)
              · intro K138
                rcases Bool.eq_false_or_eq_true ((z110 && (y52.1 == 0)) && (y66.1 == 12)) with hg137 | hg137
                all_goals try have hj140 : Tr ρ114 w113 (fun _ => false) ρ114 w113 := Tr.refl hb.bd
                · refine sr_evg (b := true) (e := 65) rfl rfl hg137 (v := .int .i64 y75.1) (ev_move rfl) (by decide) ?_
                  refine sr_evg (b := true) (e := 65) rfl rfl hg137 (v := .bool (y75.1 == 13)) (ev_eq rfl rfl) (by decide) ?_
                  refine sr_ev (v := .bool (y75.1 == 13)) (ev_pick_t rfl hg137 rfl) (by decide) ?_
                  exact sr_weaken (l' := [(1, .pointer (some ⟨g6, 0, none⟩)), (68, .bool (y75.1 == 13))]) (.cons rfl (.cons rfl (.nil _))) (K138 (y75.1 == 13) _ ⟨by rw [hg137]; rfl, rfl⟩)
                · refine sr_pass (e := 65) rfl rfl (by rw [hg137]; rfl) (by decide) ?_
                  refine sr_pass (e := 65) rfl rfl (by rw [hg137]; rfl) (by decide) ?_
                  refine sr_ev (v := .bool false) (ev_pick_f rfl hg137 rfl) (by decide) ?_
                  exact sr_weaken (l' := [(1, .pointer (some ⟨g6, 0, none⟩)), (68, .bool false)]) (.cons rfl (.cons rfl (.nil _))) (K138 false _ ⟨by rw [hg137]; rfl, rfl⟩)
            · intro K130
              rcases Bool.eq_false_or_eq_true (z110 && (y52.1 == 0)) with hg129 | hg129
              all_goals try have hj132 : Tr ρ114 w113 (fun _ => false) ρ114 w113 := Tr.refl hb.bd
              · refine sr_evg (b := true) (e := 61) rfl rfl hg129 (v := .int .i64 y66.1) (ev_move rfl) (by decide) ?_
                refine sr_evg (b := true) (e := 61) rfl rfl hg129 (v := .bool (y66.1 == 12)) (ev_eq rfl rfl) (by decide) ?_
                refine sr_ev (v := .bool (y66.1 == 12)) (ev_pick_t rfl hg129 rfl) (by decide) ?_
                exact sr_weaken (l' := [(1, .pointer (some ⟨g6, 0, none⟩)), (10, .int .i64 y75.1), (64, .bool (y66.1 == 12))]) (.cons rfl (.cons rfl (.cons rfl (.nil _)))) (K130 (y66.1 == 12) _ ⟨by rw [hg129]; rfl, rfl⟩)
              · refine sr_pass (e := 61) rfl rfl (by rw [hg129]; rfl) (by decide) ?_
                refine sr_pass (e := 61) rfl rfl (by rw [hg129]; rfl) (by decide) ?_
                refine sr_ev (v := .bool false) (ev_pick_f rfl hg129 rfl) (by decide) ?_
                exact sr_weaken (l' := [(1, .pointer (some ⟨g6, 0, none⟩)), (10, .int .i64 y75.1), (64, .bool false)]) (.cons rfl (.cons rfl (.cons rfl (.nil _)))) (K130 false _ ⟨by rw [hg129]; rfl, rfl⟩)
          · intro K122
            rcases Bool.eq_false_or_eq_true z110 with hg121 | hg121
            all_goals try have hj124 : Tr ρ114 w113 (fun _ => false) ρ114 w113 := Tr.refl hb.bd
            · refine sr_evg (b := true) (e := 57) rfl rfl hg121 (v := .int .i64 y52.1) (ev_move rfl) (by decide) ?_
              refine sr_evg (b := true) (e := 57) rfl rfl hg121 (v := .bool (y52.1 == 0)) (ev_eq rfl rfl) (by decide) ?_
              refine sr_ev (v := .bool (y52.1 == 0)) (ev_pick_t rfl hg121 rfl) (by decide) ?_
              exact sr_weaken (l' := [(1, .pointer (some ⟨g6, 0, none⟩)), (9, .int .i64 y66.1), (10, .int .i64 y75.1), (60, .bool (y52.1 == 0))]) (.cons rfl (.cons rfl (.cons rfl (.cons rfl (.nil _))))) (K122 (y52.1 == 0) _ ⟨by rw [hg121]; rfl, rfl⟩)
            · refine sr_pass (e := 57) rfl rfl (by rw [hg121]; rfl) (by decide) ?_
              refine sr_pass (e := 57) rfl rfl (by rw [hg121]; rfl) (by decide) ?_
              refine sr_ev (v := .bool false) (ev_pick_f rfl hg121 rfl) (by decide) ?_
              exact sr_weaken (l' := [(1, .pointer (some ⟨g6, 0, none⟩)), (9, .int .i64 y66.1), (10, .int .i64 y75.1), (60, .bool false)]) (.cons rfl (.cons rfl (.cons rfl (.cons rfl (.nil _))))) (K122 false _ ⟨by rw [hg121]; rfl, rfl⟩)
        · intro K109
          clear hS
          have hj111 : Tr ρ83 w77 (fun _ => false) ρ83 w77 := (Tr.refl hb.bd).weak (fun _ _ => rfl) rfl rfl
          rcases Bool.eq_false_or_eq_true ((((y11.2.1 == 6) && (y20.1 == 0)) && (y29.1 == 0)) && (y38.2.1 == 0)) with hg108 | hg108
          · have hS := ite_true' hz112 hg108
            refine sr_evg (b := true) (e := 52) rfl rfl hg108 (v := str y38.1) (ev_move rfl) (by decide) ?_
            obtain ⟨y116, hy117, hS⟩ := bind_some' hS
            refine sr_callg (b := true) (e := 52) rfl rfl hg108 (vs := [str ([117, 124, 100]), .int .i64 1]) rfl Tryd.call20 rfl (proof_Unique_ok _ (hg.fr hz hb) hy117) (by decide) ?_
            rintro _ w118 ⟨rfl, hbw119⟩
            have htr120 := Tr.of_below hbw119 hb.bd
            replace hB82 := hB82.mv (htr120.mv (i := 100) rfl)
            replace h81 := h81.mv (htr120.mv (i := 101) rfl)
            replace hb := hb.trans htr120
            replace hj111 := (hj111.trans htr120).weak (J' := (fun _ => false)) (by intro t h; simp [rng] at h ⊢ <;> omega) rfl rfl
            refine sr_evg (b := true) (e := 52) rfl rfl hg108 (v := .bool (y38.1 == y116)) (ev_seq rfl rfl) (by decide) ?_
            refine sr_ev (v := .bool (y38.1 == y116)) (ev_pick_t rfl hg108 rfl) (by decide) ?_
            exact sr_weaken (l' := [(1, .pointer (some ⟨g6, 0, none⟩)), (8, .int .i64 y52.1), (9, .int .i64 y66.1), (10, .int .i64 y75.1), (56, .bool (y38.1 == y116))]) (.cons rfl (.cons rfl (.cons rfl (.cons rfl (.cons rfl (.nil _)))))) (K109 (y38.1 == y116) _ ⟨(Option.some.inj hS).symm, _, hj111⟩)
          · have hS := ite_false' hz112 hg108
            refine sr_pass (e := 52) rfl rfl (by rw [hg108]; rfl) (by decide) ?_
            refine sr_pass (e := 52) rfl rfl (by rw [hg108]; rfl) (by decide) ?_
            refine sr_pass (e := 52) rfl rfl (by rw [hg108]; rfl) (by decide) ?_
            refine sr_ev (v := .bool false) (ev_pick_f rfl hg108 rfl) (by decide) ?_
            exact sr_weaken (l' := [(1, .pointer (some ⟨g6, 0, none⟩)), (8, .int .i64 y52.1), (9, .int .i64 y66.1), (10, .int .i64 y75.1), (56, .bool false)]) (.cons rfl (.cons rfl (.cons rfl (.cons rfl (.cons rfl (.nil _)))))) (K109 false _ ⟨(Option.some.inj hS).symm, _, hj111⟩)
      · intro K101
        rcases Bool.eq_false_or_eq_true (((y11.2.1 == 6) && (y20.1 == 0)) && (y29.1 == 0)) with hg100 | hg100
        all_goals try have hj103 : Tr ρ83 w77 (fun _ => false) ρ83 w77 := Tr.refl hb.bd
        · refine sr_evg (b := true) (e := 48) rfl rfl hg100 (v := .int .i64 y38.2.1) (ev_move rfl) (by decide) ?_
          refine sr_evg (b := true) (e := 48) rfl rfl hg100 (v := .bool (y38.2.1 == 0)) (ev_eq rfl rfl) (by decide) ?_
          refine sr_ev (v := .bool (y38.2.1 == 0)) (ev_pick_t rfl hg100 rfl) (by decide) ?_
          exact sr_weaken (l' := [(1, .pointer (some ⟨g6, 0, none⟩)), (6, str y38.1), (8, .int .i64 y52.1), (9, .int .i64 y66.1), (10, .int .i64 y75.1), (51, .bool (y38.2.1 == 0))]) (.cons rfl (.cons rfl (.cons rfl (.cons rfl (.cons rfl (.cons rfl (.nil _))))))) (K101 (y38.2.1 == 0) _ ⟨by rw [hg100]; rfl, rfl⟩)
        · refine sr_pass (e := 48) rfl rfl (by rw [hg100]; rfl) (by decide) ?_
          refine sr_pass (e := 48) rfl rfl (by rw [hg100]; rfl) (by decide) ?_
          refine sr_ev (v := .bool false) (ev_pick_f rfl hg100 rfl) (by decide) ?_
          exact sr_weaken (l' := [(1, .pointer (some ⟨g6, 0, none⟩)), (6, str y38.1), (8, .int .i64 y52.1), (9, .int .i64 y66.1), (10, .int .i64 y75.1), (51, .bool false)]) (.cons rfl (.cons rfl (.cons rfl (.cons rfl (.cons rfl (.cons rfl (.nil _))))))) (K101 false _ ⟨by rw [hg100]; rfl, rfl⟩)
    · intro K93
      rcases Bool.eq_false_or_eq_true ((y11.2.1 == 6) && (y20.1 == 0)) with hg92 | hg92
      all_goals try have hj95 : Tr ρ83 w77 (fun _ => false) ρ83 w77 := Tr.refl hb.bd
      · refine sr_evg (b := true) (e := 44) rfl rfl hg92 (v := .int .i64 y29.1) (ev_move rfl) (by decide) ?_
        refine sr_evg (b := true) (e := 44) rfl rfl hg92 (v := .bool (y29.1 == 0)) (ev_eq rfl rfl) (by decide) ?_
        refine sr_ev (v := .bool (y29.1 == 0)) (ev_pick_t rfl hg92 rfl) (by decide) ?_
        exact sr_weaken (l' := [(1, .pointer (some ⟨g6, 0, none⟩)), (6, str y38.1), (7, .int .i64 y38.2.1), (8, .int .i64 y52.1), (9, .int .i64 y66.1), (10, .int .i64 y75.1), (47, .bool (y29.1 == 0))]) (.cons rfl (.cons rfl (.cons rfl (.cons rfl (.cons rfl (.cons rfl (.cons rfl (.nil _)))))))) (K93 (y29.1 == 0) _ ⟨by rw [hg92]; rfl, rfl⟩)
      · refine sr_pass (e := 44) rfl rfl (by rw [hg92]; rfl) (by decide) ?_
        refine sr_pass (e := 44) rfl rfl (by rw [hg92]; rfl) (by decide) ?_
        refine sr_ev (v := .bool false) (ev_pick_f rfl hg92 rfl) (by decide) ?_
        exact sr_weaken (l' := [(1, .pointer (some ⟨g6, 0, none⟩)), (6, str y38.1), (7, .int .i64 y38.2.1), (8, .int .i64 y52.1), (9, .int .i64 y66.1), (10, .int .i64 y75.1), (47, .bool false)]) (.cons rfl (.cons rfl (.cons rfl (.cons rfl (.cons rfl (.cons rfl (.cons rfl (.nil _)))))))) (K93 false _ ⟨by rw [hg92]; rfl, rfl⟩)
  · intro K85
    rcases Bool.eq_false_or_eq_true (y11.2.1 == 6) with hg84 | hg84
    all_goals try have hj87 : Tr ρ83 w77 (fun _ => false) ρ83 w77 := Tr.refl hb.bd
    · refine sr_evg (b := true) (e := 40) rfl rfl hg84 (v := .int .i64 y20.1) (ev_move rfl) (by decide) ?_
      refine sr_evg (b := true) (e := 40) rfl rfl hg84 (v := .bool (y20.1 == 0)) (ev_eq rfl rfl) (by decide) ?_
      refine sr_ev (v := .bool (y20.1 == 0)) (ev_pick_t rfl hg84 rfl) (by decide) ?_
      exact sr_weaken (l' := [(1, .pointer (some ⟨g6, 0, none⟩)), (5, .int .i64 y29.1), (6, str y38.1), (7, .int .i64 y38.2.1), (8, .int .i64 y52.1), (9, .int .i64 y66.1), (10, .int .i64 y75.1), (43, .bool (y20.1 == 0))]) (.cons rfl (.cons rfl (.cons rfl (.cons rfl (.cons rfl (.cons rfl (.cons rfl (.cons rfl (.nil _))))))))) (K85 (y20.1 == 0) _ ⟨by rw [hg84]; rfl, rfl⟩)
    · refine sr_pass (e := 40) rfl rfl (by rw [hg84]; rfl) (by decide) ?_
      refine sr_pass (e := 40) rfl rfl (by rw [hg84]; rfl) (by decide) ?_
      refine sr_ev (v := .bool false) (ev_pick_f rfl hg84 rfl) (by decide) ?_
      exact sr_weaken (l' := [(1, .pointer (some ⟨g6, 0, none⟩)), (5, .int .i64 y29.1), (6, str y38.1), (7, .int .i64 y38.2.1), (8, .int .i64 y52.1), (9, .int .i64 y66.1), (10, .int .i64 y75.1), (43, .bool false)]) (.cons rfl (.cons rfl (.cons rfl (.cons rfl (.cons rfl (.cons rfl (.cons rfl (.cons rfl (.nil _))))))))) (K85 false _ ⟨by rw [hg84]; rfl, rfl⟩)
theorem ref02_Great_L1_ok {w0 : World} (hg : Gs w0) {A0 : Nat → Prop} (hA0 : ∀ b, A0 b → b < w0.heap.size) : ∀ (n : Nat), ∀ {r : Bool} {l_0 : List Str} {long_2 : Int} {i_7 : Int} {vl_0 : Value}, ref02_Great_L1 n l_0 long_2 i_7 = some r → ∀ {w : World} {A : Nat → Prop}, (Below w0.heap.size w0 w) → (∀ b, A b → b < w.heap.size) → (∀ b, A0 b → A b) → (Hp A w0.heap.size w []) → (SlR strC A w vl_0 l_0) → KE Tryd.prog 10 (Ret (fun v w' => v = .bool r ∧ Below w0.heap.size w0 w')) 25 [.code (sub (bodyOf Tryd.f10) [2, 2, 1, 2, 2, 1]), .inLoop (sub (bodyOf Tryd.f10) [2, 2, 1, 2, 2, 1]), .inBlock 0, .code (sub (bodyOf Tryd.f10) [2, 2, 2])] [(0, vl_0), (2, .int .i64 long_2), (7, .int .i64 i_7)] w := by
  intro n
  induction n with
  | zero => intro r l_0 long_2 i_7 vl_0 hS; cases hS
  | succ n ih =>
    have hr0 : ∀ {r : Bool} {l_0 : List Str} {long_2 : Int} {i_7 : Int} {vl_0 : Value}, ref02_Great_L1 n l_0 long_2 i_7 = some r → ∀ {w : World} {A : Nat → Prop}, (Below w0.heap.size w0 w) → (∀ b, A b → b < w.heap.size) → (∀ b, A0 b → A b) → (Hp A w0.heap.size w []) → (SlR strC A w vl_0 l_0) → KE Tryd.prog 10 (Ret (fun v w' => v = .bool r ∧ Below w0.heap.size w0 w')) 25 [.inLoop (sub (bodyOf Tryd.f10) [2, 2, 1, 2, 2, 1]), .inBlock 0, .code (sub (bodyOf Tryd.f10) [2, 2, 2])] [(0, vl_0), (2, .int .i64 long_2), (7, .int .i64 i_7)] w := fun {r} {l_0} {long_2} {i_7} {vl_0} hS {w} {A} hb hA hi hH hl_0 => ke_inLoop (ih hS hb hA hi hH hl_0)
    clear ih
    intro r l_0 long_2 i_7 vl_0 hS w A hb hA hi hH hl_0
    unfold ref02_Great_L1 at hS
    refine ke_seq ?_
    refine ke_seq ?_
    refine ke_region ?_
    refine sr_ev (v := .int .i64 i_7) (ev_move rfl) (by decide) ?_
    refine sr_ev (v := vl_0) (ev_move rfl) (by decide) ?_
    refine sr_ev (v := .int .i64 (l_0.length : Int)) (ev_sllen Tryd.underlying26 rfl hl_0) (by decide) ?_
    refine sr_ev (v := .bool (decide (i_7 < (l_0.length : Int)))) (ev_lt rfl rfl) (by decide) ?_
    refine sr_end (l' := [(0, vl_0), (2, .int .i64 long_2), (7, .int .i64 i_7), (15, .bool (decide (i_7 < (l_0.length : Int))))]) (.cons rfl (.cons rfl (.cons rfl (.cons rfl (.nil _))))) ?_
    refine ke_cond (t := decide (i_7 < (l_0.length : Int))) rfl (fun hc4 => ?_) (fun hc4 => ?_)
    · replace hS := ite_true' hS hc4
      refine ke_skip ?_
      refine ke_seq ?_
      refine ke_block ?_
      refine ke_seq ?_
      refine ke_region ?_
      refine sr_ev (v := vl_0) (ev_move rfl) (by decide) ?_
      refine sr_ev (v := .int .i64 i_7) (ev_move rfl) (by decide) ?_
      obtain ⟨y5, hy6, hS⟩ := bind_some' hS
      refine sr_index hl_0 Tryd.underlying26 Tryd.info9 rfl rfl rfl hy6 (by decide) ?_
      intro b7 o8 cs10 he9
      obtain rfl : cs10 = [str y5] := he9.rd
      refine sr_ev (v := str y5) (ev_load Tryd.isAgg9 rfl (he9.cell 0 _ rfl)) (by decide) ?_
      refine sr_ev (v := .int .i64 (y5.length : Int)) (ev_slen Tryd.underlying9 rfl) (by decide) ?_
      refine sr_ev (v := .int .i64 long_2) (ev_move rfl) (by decide) ?_
      refine sr_ev (v := .bool (decide ((y5.length : Int) > long_2))) (ev_gt rfl rfl) (by decide) ?_
      refine sr_end (l' := [(0, vl_0), (2, .int .i64 long_2), (7, .int .i64 i_7), (24, .bool (decide ((y5.length : Int) > long_2)))]) (.cons rfl (.cons rfl (.cons rfl (.cons rfl (.nil _))))) ?_
      refine ke_cond (t := decide ((y5.length : Int) > long_2)) rfl (fun hc11 => ?_) (fun hc11 => ?_)
      · replace hS := ite_true' hS hc11
        refine ke_seq ?_
        refine ke_region ?_
        refine sr_ev (v := .bool true) (ev_assign rfl) (by decide) ?_
        refine sr_end (l' := [(6, .bool true)]) (.cons rfl (.nil _)) ?_
        cases hS
        exact ke_ret1 Tryd.func10 rfl rfl ⟨_, rfl, rfl, hb⟩
      · replace hS := ite_false' hS hc11
        refine ke_skip ?_
        refine ke_inBlock ?_
        refine ke_region ?_
        refine sr_ev (v := .int .i64 i_7) (ev_move rfl) (by decide) ?_
        refine sr_ev (v := .int .i64 (IntKind.i64.wrap (i_7 + 1))) (ev_add rfl rfl) (by decide) ?_
        refine sr_ev (v := .int .i64 (IntKind.i64.wrap (i_7 + 1))) (ev_assign rfl) (by decide) ?_
        refine sr_end (l' := [(0, vl_0), (2, .int .i64 long_2), (7, .int .i64 (IntKind.i64.wrap (i_7 + 1)))]) (.cons rfl (.cons rfl (.cons rfl (.nil _)))) ?_
        have hK := hr0 hS hb hA hi hH hl_0
        exact ke_weaken (l' := [(0, vl_0), (2, .int .i64 long_2), (7, .int .i64 (IntKind.i64.wrap (i_7 + 1)))]) (.cons rfl (.cons rfl (.cons rfl (.nil _)))) hK
    · replace hS := ite_false' hS hc4
      refine ke_exit (k' := _) rfl ?_
      refine ke_seq ?_
      refine ke_region ?_
      refine sr_ev (v := .bool false) (ev_assign rfl) (by decide) ?_
      refine sr_end (l' := [(6, .bool false)]) (.cons rfl (.nil _)) ?_
      cases hS
      exact ke_ret1 Tryd.func10 rfl rfl ⟨_, rfl, rfl, hb⟩
theorem ref02_Great_ok {A0 : Nat → Prop} (w0 : World) (hg : Gs w0) {l_0 : List Str} {most_1 : Int} {long_2 : Int} {v1 : Value} {r : Bool} (h2 : SlR strC A0 w0 v1 l_0) (hS : ref02_Great l_0 most_1 long_2 = some r) :
    Calls Tryd.prog 10 #[v1, .int .i64 most_1, .int .i64 long_2] w0 (Ret (fun v w' => v = .bool r ∧ Below w0.heap.size w0 w')) := by
  unfold ref02_Great at hS
  have hb := Below.refl w0.heap.size w0
  replace h2 := h2.weak (A' := fun _ => False) (fun _ h => h.elim)
  obtain ⟨A0, hA0, hAe⟩ : ∃ A0 : Nat → Prop, (∀ b, A0 b → b < w0.heap.size) ∧ A0 = fun _ => False := ⟨_, fun _ h => h.elim, rfl⟩
  rw [← hAe] at h2
  clear hAe
  have hA := hA0
  have hi : ∀ b, A0 b → A0 b := fun _ h => h
  have hH := Hp.nil A0 w0.heap.size w0
  refine calls_of_ke Tryd.func10 rfl (n := 25) rfl rfl (l := [(0, v1), (1, .int .i64 most_1), (2, .int .i64 long_2)]) rfl ?_
  refine ke_seq ?_
  refine ke_region ?_
  refine sr_ev (v := .bool false) (ev_assign rfl) (by decide) ?_
  refine sr_end (l' := [(0, v1), (1, .int .i64 most_1), (2, .int .i64 long_2)]) (.cons rfl (.cons rfl (.cons rfl (.nil _)))) ?_
  refine ke_seq ?_
  refine ke_seq ?_
  refine ke_region ?_
  refine sr_ev (v := v1) (ev_move rfl) (by decide) ?_
  refine sr_ev (v := .int .i64 (l_0.length : Int)) (ev_sllen Tryd.underlying26 rfl h2) (by decide) ?_
  refine sr_ev (v := .int .i64 most_1) (ev_move rfl) (by decide) ?_
  refine sr_ev (v := .bool (decide ((l_0.length : Int) > most_1))) (ev_gt rfl rfl) (by decide) ?_
  refine sr_end (l' := [(0, v1), (2, .int .i64 long_2), (11, .bool (decide ((l_0.length : Int) > most_1)))]) (.cons rfl (.cons rfl (.cons rfl (.nil _)))) ?_
  refine ke_cond (t := decide ((l_0.length : Int) > most_1)) rfl (fun hc3 => ?_) (fun hc3 => ?_)
  · replace hS := ite_true' hS hc3
    refine ke_seq ?_
    refine ke_region ?_
    refine sr_ev (v := .bool true) (ev_assign rfl) (by decide) ?_
    refine sr_end (l' := [(6, .bool true)]) (.cons rfl (.nil _)) ?_
    cases hS
    exact ke_ret1 Tryd.func10 rfl rfl ⟨_, rfl, rfl, hb⟩
  · replace hS := ite_false' hS hc3
    refine ke_skip ?_
    refine ke_seq ?_
    refine ke_seq ?_
    refine ke_region ?_
    refine sr_ev (v := .int .i64 0) (ev_assign rfl) (by decide) ?_
    refine sr_end (l' := [(0, v1), (2, .int .i64 long_2), (7, .int .i64 0)]) (.cons rfl (.cons rfl (.cons rfl (.nil _)))) ?_
    refine ke_block ?_
    have hK := ref02_Great_L1_ok hg hA0 _ hS hb hA hi hH h2
    exact ke_weaken (l' := [(0, v1), (2, .int .i64 long_2), (7, .int .i64 0)]) (.cons rfl (.cons rfl (.cons rfl (.nil _)))) (ke_loop hK)
theorem law37_long_L1_ok {w0 : World} (hg : Gs w0) {ρA : Tags} (hbd : ∀ b, ρA b ≠ 0 → b < w0.heap.size) (hz : Gz (flat1 ρA)) : ∀ (n : Nat), ∀ {r : Bool} {ops_0 : List law37_Op} {t_11 : Int} {t_12 : Int} {vops_0 : Value}, law37_long_L1 n ops_0 t_11 t_12 = some r → ∀ {ρ : Tags} {w : World}, (Fr (flat1 ρA) w0 ρ w) → (SlR law37_Op.c (Wb ρ) w vops_0 ops_0) → KE Tryd.prog 9 (Ret (fun v w' => v = .bool r ∧ Below w0.heap.size w0 w')) 33 [.code (sub (bodyOf Tryd.f9) [2, 2, 1, 2, 2, 1]), .inLoop (sub (bodyOf Tryd.f9) [2, 2, 1, 2, 2, 1]), .inBlock 0, .code (sub (bodyOf Tryd.f9) [2, 2, 2])] [(0, vops_0), (11, .int .i64 t_11), (12, .int .i64 t_12)] w := by
  intro n
  induction n with
  | zero => intro r ops_0 t_11 t_12 vops_0 hS; cases hS
  | succ n ih =>
    have hr0 : ∀ {r : Bool} {ops_0 : List law37_Op} {t_11 : Int} {t_12 : Int} {vops_0 : Value}, law37_long_L1 n ops_0 t_11 t_12 = some r → ∀ {ρ : Tags} {w : World}, (Fr (flat1 ρA) w0 ρ w) → (SlR law37_Op.c (Wb ρ) w vops_0 ops_0) → KE Tryd.prog 9 (Ret (fun v w' => v = .bool r ∧ Below w0.heap.size w0 w')) 33 [.inLoop (sub (bodyOf Tryd.f9) [2, 2, 1, 2, 2, 1]), .inBlock 0, .code (sub (bodyOf Tryd.f9) [2, 2, 2])] [(0, vops_0), (11, .int .i64 t_11), (12, .int .i64 t_12)] w := fun {r} {ops_0} {t_11} {t_12} {vops_0} hS {ρ} {w} hb hops_0 => ke_inLoop (ih hS hb hops_0)
    clear ih
    intro r ops_0 t_11 t_12 vops_0 hS ρ w hb hops_0
    unfold law37_long_L1 at hS
    refine ke_seq ?_
    refine ke_region ?_
    refine sr_ev (v := .bool (decide (t_12 < t_11))) (ev_lt rfl rfl) (by decide) ?_
    refine sr_end (l' := [(0, vops_0), (11, .int .i64 t_11), (12, .int .i64 t_12), (13, .bool (decide (t_12 < t_11)))]) (.cons rfl (.cons rfl (.cons rfl (.cons rfl (.nil _))))) ?_
    refine ke_seq ?_
    refine ke_cond (t := decide (t_12 < t_11)) rfl (fun hc4 => ?_) (fun hc4 => ?_)
    · replace hS := ite_true' hS hc4
      refine ke_skip ?_
      refine ke_seq ?_
      refine ke_block ?_
      refine ke_seq ?_
      refine ke_region ?_
      refine sr_ev (v := .int .i64 t_12) (ev_move rfl) (by decide) ?_
      refine sr_ev (v := .int .i64 t_12) (ev_assign rfl) (by decide) ?_
      refine sr_end (l' := [(0, vops_0), (5, .int .i64 t_12), (11, .int .i64 t_11), (12, .int .i64 t_12)]) (.cons rfl (.cons rfl (.cons rfl (.cons rfl (.nil _))))) ?_
      refine ke_seq ?_
      refine ke_region_j (ρ := ρ) (fun _ => false) 17 Tryd.mixed (fun w6 hw5 => ?_)
      have htr7 := Tr.of_below hw5 hb.bd
      replace hops_0 := hops_0.mv htr7.rd
      replace hb := hb.trans htr7
      refine dj_H 0 (v := vops_0) (by kernel_rfl) (by kernel_rfl) rfl (fun _ _ _ h => h) (sj_refl hb.bd rfl rfl) (fun w1 ρ1 hw1 => ev_move rfl) (by decide) ?_
      refine dj_H 1 (v := .int .i64 t_12) (by kernel_rfl) (by kernel_rfl) rfl (fun _ _ _ h => h) (sj_refl hb.bd rfl rfl) (fun w1 ρ1 hw1 => ev_move rfl) (by decide) ?_
      obtain ⟨y75, hy76, hS⟩ := bind_some' hS
      obtain ⟨b77, o78, cs80, hq81, he79⟩ := ((SlT.of_sl (i := 0) hops_0)).elem (P := Tryd.prog) Tryd.underlying22 Tryd.info39 rfl hy76
      obtain rfl : cs80 = [.int .i64 y75.Kind, str y75.User, str y75.ID, str y75.Secret, .int .i64 y75.Until, .int .i64 y75.Now] := he79.rd
      refine dj_H 2 (v := .pointer (some ⟨b77, o78, none⟩)) (by kernel_rfl) (by kernel_rfl) rfl (fun _ _ _ h => h) (sj_refl hb.bd rfl rfl) (fun w1 ρ1 hw1 => hq81 w1 rfl rfl) (by decide) ?_
      refine dj_H 3 (v := .pointer (some ⟨b77, o78 + 1, none⟩)) (by kernel_rfl) (by kernel_rfl) rfl (fun _ _ _ h => h) (sj_refl hb.bd rfl rfl) (fun w1 ρ1 hw1 => ev_fieldAddr (i := 1) Tryd.underlying39 rfl Tryd.info9 rfl rfl) (by decide) ?_
      refine dj_H 4 (v := str y75.User) (by kernel_rfl) (by kernel_rfl) rfl (fun _ _ _ h => h) (sj_refl hb.bd rfl rfl) (fun w1 ρ1 hw1 => ev_load Tryd.isAgg9 rfl ((he79.mv (hw1.mv (i := 0) rfl) (Nat.succ_pos _)).cell 1 _ rfl)) (by decide) ?_
      refine dj_H 5 (v := vops_0) (by kernel_rfl) (by kernel_rfl) rfl (fun _ _ _ h => h) (sj_refl hb.bd rfl rfl) (fun w1 ρ1 hw1 => ev_move rfl) (by decide) ?_
      refine dj_H 6 (v := .int .i64 t_12) (by kernel_rfl) (by kernel_rfl) rfl (fun _ _ _ h => h) (sj_refl hb.bd rfl rfl) (fun w1 ρ1 hw1 => ev_move rfl) (by decide) ?_
      obtain ⟨y82, hy83, hS⟩ := bind_some' hS
      obtain ⟨b84, o85, cs87, hq88, he86⟩ := ((SlT.of_sl (i := 0) hops_0)).elem (P := Tryd.prog) Tryd.underlying22 Tryd.info39 rfl hy83
      obtain rfl : cs87 = [.int .i64 y82.Kind, str y82.User, str y82.ID, str y82.Secret, .int .i64 y82.Until, .int .i64 y82.Now] := he86.rd
      refine dj_H 7 (v := .pointer (some ⟨b84, o85, none⟩)) (by kernel_rfl) (by kernel_rfl) rfl (fun _ _ _ h => h) (sj_refl hb.bd rfl rfl) (fun w1 ρ1 hw1 => hq88 w1 rfl rfl) (by decide) ?_
      refine dj_H 8 (v := .pointer (some ⟨b84, o85 + 2, none⟩)) (by kernel_rfl) (by kernel_rfl) rfl (fun _ _ _ h => h) (sj_refl hb.bd rfl rfl) (fun w1 ρ1 hw1 => ev_fieldAddr (i := 2) Tryd.underlying39 rfl Tryd.info9 rfl rfl) (by decide) ?_
      refine dj_H 9 (v := str y82.ID) (by kernel_rfl) (by kernel_rfl) rfl (fun _ _ _ h => h) (sj_refl hb.bd rfl rfl) (fun w1 ρ1 hw1 => ev_load Tryd.isAgg9 rfl ((he86.mv (hw1.mv (i := 0) rfl) (Nat.succ_pos _)).cell 2 _ rfl)) (by decide) ?_
      refine dj_H 10 (v := vops_0) (by kernel_rfl) (by kernel_rfl) rfl (fun _ _ _ h => h) (sj_refl hb.bd rfl rfl) (fun w1 ρ1 hw1 => ev_move rfl) (by decide) ?_
      refine dj_H 11 (v := .int .i64 t_12) (by kernel_rfl) (by kernel_rfl) rfl (fun _ _ _ h => h) (sj_refl hb.bd rfl rfl) (fun w1 ρ1 hw1 => ev_move rfl) (by decide) ?_
      obtain ⟨y89, hy90, hS⟩ := bind_some' hS
      obtain ⟨b91, o92, cs94, hq95, he93⟩ := ((SlT.of_sl (i := 0) hops_0)).elem (P := Tryd.prog) Tryd.underlying22 Tryd.info39 rfl hy90
      obtain rfl : cs94 = [.int .i64 y89.Kind, str y89.User, str y89.ID, str y89.Secret, .int .i64 y89.Until, .int .i64 y89.Now] := he93.rd
      refine dj_H 12 (v := .pointer (some ⟨b91, o92, none⟩)) (by kernel_rfl) (by kernel_rfl) rfl (fun _ _ _ h => h) (sj_refl hb.bd rfl rfl) (fun w1 ρ1 hw1 => hq95 w1 rfl rfl) (by decide) ?_
      refine dj_H 13 (v := .pointer (some ⟨b91, o92 + 3, none⟩)) (by kernel_rfl) (by kernel_rfl) rfl (fun _ _ _ h => h) (sj_refl hb.bd rfl rfl) (fun w1 ρ1 hw1 => ev_fieldAddr (i := 3) Tryd.underlying39 rfl Tryd.info9 rfl rfl) (by decide) ?_
      refine dj_H 14 (v := str y89.Secret) (by kernel_rfl) (by kernel_rfl) rfl (fun _ _ _ h => h) (sj_refl hb.bd rfl rfl) (fun w1 ρ1 hw1 => ev_load Tryd.isAgg9 rfl ((he93.mv (hw1.mv (i := 0) rfl) (Nat.succ_pos _)).cell 3 _ rfl)) (by decide) ?_
      refine dj_E 15 (by kernel_rfl) rfl ?_
      have jt96 : Tr ρ w6 (fun _ => false) ρ w6 := (Tr.refl hb.bd).weak (fun _ _ => rfl) rfl rfl
      refine sr_litT (c := strC) (ρ := ρ) (E := 9) (xs := [y75.User, y82.ID, y89.Secret]) (vs := #[(0, str y75.User), (1, str y82.ID), (2, str y89.Secret)]) (cs := #[str y75.User, str y82.ID, str y89.Secret]) (css := [[str y75.User], [str y82.ID], [str y89.Secret]]) rfl (fun _ => by kernel_rfl) rfl ⟨rfl, ⟨rfl, ⟨rfl, trivial⟩⟩⟩ rfl (by decide) hb.bd (by decide) ?_
      intro v97 w99 h98 hbw101
      have htr100 := Tr.of_below hbw101 hb.bd
      replace hops_0 := hops_0.mv htr100.rd
      replace hb := hb.trans htr100
      replace jt96 := (jt96.trans htr100).weak (J' := (fun _ => false)) (by intro t h; simp [rng] at h ⊢ <;> omega) rfl rfl
      refine dj_next (l' := [(0, vops_0), (11, .int .i64 t_11), (12, .int .i64 t_12), (30, v97)]) rfl (.cons rfl (.cons rfl (.cons rfl (.cons rfl (.nil _))))) jt96 (by intro t h; simp [rng] at h ⊢ <;> omega) rfl rfl ?_
      refine dj_E 16 (by kernel_rfl) rfl ?_
      have jt102 : Tr ρ w99 (fun _ => false) ρ w99 := (Tr.refl hb.bd).weak (fun _ _ => rfl) rfl rfl
      obtain ⟨y103, hy104, hS⟩ := bind_some' hS
      refine sr_call (vs := [v97, .int .i64 3, .int .i64 300]) rfl Tryd.call10 rfl (ref02_Great_ok _ (hg.fr hz hb) h98.asSl hy104) (by decide) ?_
      rintro _ w105 ⟨rfl, hbw106⟩
      have htr107 := Tr.of_below hbw106 hb.bd
      replace hops_0 := hops_0.mv htr107.rd
      replace hb := hb.trans htr107
      replace jt102 := (jt102.trans htr107).weak (J' := (fun _ => false)) (by intro t h; simp [rng] at h ⊢ <;> omega) rfl rfl
      refine dj_next (l' := [(0, vops_0), (11, .int .i64 t_11), (12, .int .i64 t_12), (31, .bool y103)]) rfl (.cons rfl (.cons rfl (.cons rfl (.cons rfl (.nil _))))) jt102 (by intro t h; simp [rng] at h ⊢ <;> omega) rfl rfl ?_
      refine dj_done rfl (by kernel_rfl) ?_
      refine ke_weaken (l' := [(0, vops_0), (11, .int .i64 t_11), (12, .int .i64 t_12), (31, .bool y103)]) (.cons rfl (.cons rfl (.cons rfl (.cons rfl (.nil _))))) ?_
      refine ke_cond (t := y103) rfl (fun hc108 => ?_) (fun hc108 => ?_)
      · replace hS := ite_true' hS hc108
        refine ke_seq ?_
        refine ke_region ?_
        refine sr_ev (v := .bool true) (ev_assign rfl) (by decide) ?_
        refine sr_end (l' := [(4, .bool true)]) (.cons rfl (.nil _)) ?_
        cases hS
        exact ke_ret1 Tryd.func9 rfl rfl ⟨_, rfl, rfl, (hb.below (flat1_le _))⟩
      · replace hS := ite_false' hS hc108
        refine ke_skip ?_
        refine ke_inBlock ?_
        refine ke_region ?_
        refine sr_ev (v := .int .i64 (IntKind.i64.wrap (t_12 + 1))) (ev_add rfl rfl) (by decide) ?_
        refine sr_ev (v := .int .i64 (IntKind.i64.wrap (t_12 + 1))) (ev_move rfl) (by decide) ?_
        refine sr_end (l' := [(0, vops_0), (11, .int .i64 t_11), (12, .int .i64 (IntKind.i64.wrap (t_12 + 1)))]) (.cons rfl (.cons rfl (.cons rfl (.nil _)))) ?_
        have hK := hr0 hS hb hops_0
        exact ke_weaken (l' := [(0, vops_0), (11, .int .i64 t_11), (12, .int .i64 (IntKind.i64.wrap (t_12 + 1)))]) (.cons rfl (.cons rfl (.cons rfl (.nil _)))) hK
    · replace hS := ite_false' hS hc4
      refine ke_exit (k' := _) rfl ?_
      refine ke_seq ?_
      refine ke_region ?_
      refine sr_ev (v := .bool false) (ev_assign rfl) (by decide) ?_
      refine sr_end (l' := [(4, .bool false)]) (.cons rfl (.nil _)) ?_
      cases hS
      exact ke_ret1 Tryd.func9 rfl rfl ⟨_, rfl, rfl, (hb.below (flat1_le _))⟩
theorem law37_long_ok (w0 : World) (hg : Gs w0) {ρA : Tags} (hbd : ∀ b, ρA b ≠ 0 → b < w0.heap.size) (hz : Gz ρA) {ops_0 : List law37_Op} {most_1 : Int} {v1 : Value} {r : Bool} (h2 : SlR law37_Op.c (Wb ρA) w0 v1 ops_0) (hS : law37_long ops_0 most_1 = some r) :
    Calls Tryd.prog 9 #[v1, .int .i64 most_1] w0 (Ret (fun v w' => v = .bool r ∧ Below w0.heap.size w0 w')) := by
  unfold law37_long at hS
  have hb := flat1_fr (ρ := ρA) (w := w0) hbd
  have hz := hz.flat1
  replace h2 := SlR.mv h2 flat1_rd
  refine calls_of_ke Tryd.func9 rfl (n := 33) rfl rfl (l := [(0, v1), (1, .int .i64 most_1)]) rfl ?_
  refine ke_seq ?_
  refine ke_region ?_
  refine sr_ev (v := .bool false) (ev_assign rfl) (by decide) ?_
  refine sr_end (l' := [(0, v1), (1, .int .i64 most_1)]) (.cons rfl (.cons rfl (.nil _))) ?_
  refine ke_seq ?_
  refine ke_seq ?_
  refine ke_region ?_
  refine sr_ev (v := v1) (ev_move rfl) (by decide) ?_
  refine sr_ev (v := .int .i64 (ops_0.length : Int)) (ev_sllen Tryd.underlying22 rfl h2.asSl) (by decide) ?_
  refine sr_ev (v := .int .i64 most_1) (ev_move rfl) (by decide) ?_
  refine sr_ev (v := .bool (decide ((ops_0.length : Int) > most_1))) (ev_gt rfl rfl) (by decide) ?_
  refine sr_end (l' := [(0, v1), (9, .bool (decide ((ops_0.length : Int) > most_1)))]) (.cons rfl (.cons rfl (.nil _))) ?_
  refine ke_cond (t := decide ((ops_0.length : Int) > most_1)) rfl (fun hc3 => ?_) (fun hc3 => ?_)
  · replace hS := ite_true' hS hc3
    refine ke_seq ?_
    refine ke_region ?_
    refine sr_ev (v := .bool true) (ev_assign rfl) (by decide) ?_
    refine sr_end (l' := [(4, .bool true)]) (.cons rfl (.nil _)) ?_
    cases hS
    exact ke_ret1 Tryd.func9 rfl rfl ⟨_, rfl, rfl, (hb.below (flat1_le _))⟩
  · replace hS := ite_false' hS hc3
    refine ke_skip ?_
    refine ke_seq ?_
    refine ke_seq ?_
    refine ke_region ?_
    refine sr_ev (v := v1) (ev_move rfl) (by decide) ?_
    refine sr_ev (v := .int .i64 (ops_0.length : Int)) (ev_sllen Tryd.underlying22 rfl h2.asSl) (by decide) ?_
    refine sr_ev (v := .int .i64 0) (ev_move rfl) (by decide) ?_
    refine sr_end (l' := [(0, v1), (11, .int .i64 (ops_0.length : Int)), (12, .int .i64 0)]) (.cons rfl (.cons rfl (.cons rfl (.nil _)))) ?_
    refine ke_block ?_
    have hK := law37_long_L1_ok hg hbd hz _ hS hb h2
    exact ke_weaken (l' := [(0, v1), (11, .int .i64 (ops_0.length : Int)), (12, .int .i64 0)]) (.cons rfl (.cons rfl (.cons rfl (.nil _)))) (ke_loop hK)
theorem law37_do_B1_ok {w0 : World} (hg : Gs w0) {ρA : Tags} (hbd : ∀ b, ρA b ≠ 0 → b < w0.heap.size) {o : Nat} (ho2 : 2 ≤ o) {gd_0 : Nat} (hz : Gz (enter ρA o 2)) {r : law37_result × device_Devices} {t_6_0 : Str} {t_6_1 : List Str} {t_6_2 : Int} {t_6_3 : Bool} {t_6_4 : Int} {r_7_0 : Str} {r_7_1 : List Str} {r_7_2 : Int} {r_7_3 : Bool} {r_7_4 : Int} {ogd_0 : device_Devices} {gt_6 : Nat} {vt_6_1 : Value} {gr_7 : Nat} {vr_7_1 : Value} (hS : law37_do_B1 t_6_0 t_6_1 t_6_2 t_6_3 t_6_4 r_7_0 r_7_1 r_7_2 r_7_3 r_7_4 ogd_0 = some r) {ρ : Tags} {w : World} (hb : Fr (enter ρA o 2) w0 ρ w) (ht_6_1 : SlR strC (Wb ρ) w vt_6_1 t_6_1) (hBt_6 : Blk ρ 8 w gt_6 (.cells #[str t_6_0, vt_6_1, .int .i64 t_6_2, .bool t_6_3, .int .i64 t_6_4] 46 (0, 0))) (hr_7_1 : SlR strC (Wb ρ) w vr_7_1 r_7_1) (hBr_7 : Blk ρ 9 w gr_7 (.cells #[str r_7_0, vr_7_1, .int .i64 r_7_2, .bool r_7_3, .int .i64 r_7_4] 46 (0, 0))) (hogd_0 : device_Devices.O (fun p => 100 + p) ρ w gd_0 ogd_0) :
    KE Tryd.prog 21 (Ret (fun v w' => ∃ ρ' x1, v = .agg #[str r.1.text, x1, .int .i64 r.1.n, .bool r.1.is_, .int .i64 r.1.e] ∧ SlR strC (Wb ρ') w' x1 r.1.list ∧ device_Devices.O (fun p => o + p) ρ' w' gd_0 r.2 ∧ Tr ρA w0 (rng o 2) ρ' w')) 105 [.inBlock 0, .code (sub (bodyOf Tryd.f21) [2, 2, 2])] [(6, .pointer (some ⟨gt_6, 0, none⟩)), (7, .pointer (some ⟨gr_7, 0, none⟩))] w := by
  unfold law37_do_B1 at hS
  obtain ⟨v33, hB35, h34⟩ := hogd_0
  replace hB35 : Blk ρ 100 w gd_0 (.cells #[v33, .int .i64 ogd_0.given] 62 (0, 0)) := hB35
  replace h34 : MapT device_key.ek device_record.c true ρ 101 w v33 ogd_0.records := h34
  refine ke_inBlock ?_
  refine ke_seq ?_
  refine ke_region ?_
  refine sr_ev (v := .agg #[str r_7_0, vr_7_1, .int .i64 r_7_2, .bool r_7_3, .int .i64 r_7_4]) (ev_loads (cs := [str r_7_0, vr_7_1, .int .i64 r_7_2, .bool r_7_3, .int .i64 r_7_4]) Tryd.isAgg46 Tryd.sizeOf46 rfl (hBr_7.cells (vs := [str r_7_0, vr_7_1, .int .i64 r_7_2, .bool r_7_3, .int .i64 r_7_4]) rfl)) (by decide) ?_
  refine sr_storeT (v := .agg #[str r_7_0, vr_7_1, .int .i64 r_7_2, .bool r_7_3, .int .i64 r_7_4]) (vs := [str r_7_0, vr_7_1, .int .i64 r_7_2, .bool r_7_3, .int .i64 r_7_4]) (cs' := #[str r_7_0, vr_7_1, .int .i64 r_7_2, .bool r_7_3, .int .i64 r_7_4]) hBt_6 (by decide) hb.bd rfl rfl rfl Tryd.sizeOf46 rfl (by first | rfl | (simp only [List.all_cons, List.all_nil, SlR.oneCell hr_7_1]; done) | (simp only [List.all_cons, List.all_nil, SlR.oneCell hr_7_1]; rfl)) rfl ?_
  intro w38 hBt_61 htr39
  replace hr_7_1 := hr_7_1.mv htr39.rd
  replace hB35 := hB35.mv (htr39.mv (i := 100) rfl)
  replace h34 := h34.mv (htr39.mv (i := 101) rfl)
  replace hb := hb.trans htr39
  replace hBt_6 : Blk ρ 8 w38 gt_6 (.cells #[str r_7_0, vr_7_1, .int .i64 r_7_2, .bool r_7_3, .int .i64 r_7_4] 46 (0, 0)) := hBt_61
  clear hBt_61
  refine sr_end (l' := [(6, .pointer (some ⟨gt_6, 0, none⟩))]) (.cons rfl (.nil _)) ?_
  cases hS
  exact ke_ret (rs := [.cell 6 46]) (vs := [.agg #[str r_7_0, vr_7_1, .int .i64 r_7_2, .bool r_7_3, .int .i64 r_7_4]]) Tryd.func21 rfl ⟨⟨_, rfl, run_loadVar_s (cs := [str r_7_0, vr_7_1, .int .i64 r_7_2, .bool r_7_3, .int .i64 r_7_4]) Tryd.isAgg46 Tryd.sizeOf46 (hBt_6.cells (vs := [str r_7_0, vr_7_1, .int .i64 r_7_2, .bool r_7_3, .int .i64 r_7_4]) rfl)⟩, trivial⟩ rfl ⟨_, rfl, leave ρA w0 o 2 ρ, _, rfl, (SlR.mv hr_7_1 (leave_rd hb)), ⟨_, (hB35.mv (leave_mv (p := 0) (by decide) hb)), (h34.mv (leave_mv (p := 1) (by decide) hb))⟩, (leave_tr ho2 hb)⟩
theorem law37_do_ok (w0 : World) (hg : Gs w0) {ρA : Tags} (hbd : ∀ b, ρA b ≠ 0 → b < w0.heap.size) (hz : Gz ρA) {o : Nat} (ho2 : 2 ≤ o) {d_0 : device_Devices} {o_1 : law37_Op} {last_2 : Str} {gd_0 : Nat} {r : law37_result × device_Devices} (ho0 : device_Devices.O (fun p => o + p) ρA w0 gd_0 d_0) (hS : law37_do d_0 o_1 last_2 = some r) :
    Calls Tryd.prog 21 #[.pointer (some ⟨gd_0, 0, none⟩), .agg #[.int .i64 o_1.Kind, str o_1.User, str o_1.ID, str o_1.Secret, .int .i64 o_1.Until, .int .i64 o_1.Now], str last_2] w0 (Ret (fun v w' => ∃ ρ' x1, v = .agg #[str r.1.text, x1, .int .i64 r.1.n, .bool r.1.is_, .int .i64 r.1.e] ∧ SlR strC (Wb ρ') w' x1 r.1.list ∧ device_Devices.O (fun p => o + p) ρ' w' gd_0 r.2 ∧ Tr ρA w0 (rng o 2) ρ' w')) := by
  unfold law37_do at hS
  have hb := enter_fr (ρ := ρA) (w := w0) (n := 2) ho2 hbd
  have hz := hz.enter (n := 2) ho2
  obtain ⟨v1, hB3, h2⟩ := ho0
  replace hB3 := hB3.mv (enter_mv (p := 0) (n := 2) (by decide) ho2)
  replace h2 := h2.mv (enter_mv (p := 1) (n := 2) (by decide) ho2)
  replace hB3 : Blk (enter ρA o 2) 100 w0 gd_0 (.cells #[v1, .int .i64 d_0.given] 62 (0, 0)) := hB3
  replace h2 : MapT device_key.ek device_record.c true (enter ρA o 2) 101 w0 v1 d_0.records := h2
  refine calls_of_ke Tryd.func21 rfl (n := 105) rfl rfl (l := [(0, .pointer (some ⟨gd_0, 0, none⟩)), (1, .agg #[.int .i64 o_1.Kind, str o_1.User, str o_1.ID, str o_1.Secret, .int .i64 o_1.Until, .int .i64 o_1.Now]), (2, str last_2)]) rfl ?_
  refine ke_seq ?_
  refine ke_region ?_
  refine sr_boxT 6 (by decide) hb.bd rfl (by decide) ?_
  intro g6 ρ7 w8 hB10 htr9
  replace hB3 := hB3.mv (htr9.mv (i := 100) rfl)
  replace h2 := h2.mv (htr9.mv (i := 101) rfl)
  replace hb := hb.trans htr9
  replace hB10 : Blk ρ7 6 w8 g6 (.cells #[.int .i64 o_1.Kind, str o_1.User, str o_1.ID, str o_1.Secret, .int .i64 o_1.Until, .int .i64 o_1.Now] 39 (0, 0)) := hB10
  refine sr_allocT 8 (by decide) hb.bd Tryd.zeroValue46 (by decide) ?_
  intro g11 ρ12 w13 hB15 htr14
  replace hB10 := hB10.mv (htr14.mv (i := 6) rfl)
  replace hB3 := hB3.mv (htr14.mv (i := 100) rfl)
  replace h2 := h2.mv (htr14.mv (i := 101) rfl)
  replace hb := hb.trans htr14
  replace hB15 : Blk ρ12 8 w13 g11 (.cells #[str ([]), (.slice none 0 0), .int .i64 0, .bool false, .int .i64 0] 46 (0, 0)) := hB15
  refine sr_end (l' := [(0, .pointer (some ⟨gd_0, 0, none⟩)), (2, str last_2), (4, .pointer (some ⟨g6, 0, none⟩)), (6, .pointer (some ⟨g11, 0, none⟩))]) (.cons rfl (.cons rfl (.cons rfl (.cons rfl (.nil _))))) ?_
  refine ke_seq ?_
  refine ke_region ?_
  refine sr_allocT 9 (by decide) hb.bd Tryd.zeroValue46 (by decide) ?_
  intro g16 ρ17 w18 hB20 htr19
  replace hB15 := hB15.mv (htr19.mv (i := 8) rfl)
  replace hB10 := hB10.mv (htr19.mv (i := 6) rfl)
  replace hB3 := hB3.mv (htr19.mv (i := 100) rfl)
  replace h2 := h2.mv (htr19.mv (i := 101) rfl)
  replace hb := hb.trans htr19
  replace hB20 : Blk ρ17 9 w18 g16 (.cells #[str ([]), (.slice none 0 0), .int .i64 0, .bool false, .int .i64 0] 46 (0, 0)) := hB20
  refine sr_end (l' := [(0, .pointer (some ⟨gd_0, 0, none⟩)), (2, str last_2), (4, .pointer (some ⟨g6, 0, none⟩)), (6, .pointer (some ⟨g11, 0, none⟩)), (7, .pointer (some ⟨g16, 0, none⟩))]) (.cons rfl (.cons rfl (.cons rfl (.cons rfl (.cons rfl (.nil _)))))) ?_
  refine ke_seq ?_
  refine ke_seq ?_
  refine ke_region ?_
  refine sr_ev (v := .pointer (some ⟨g6, 0, none⟩)) (ev_fieldAddr (i := 0) Tryd.underlying39 rfl Tryd.info3 rfl rfl) (by decide) ?_
  refine sr_ev (v := .int .i64 o_1.Kind) (ev_load Tryd.isAgg3 rfl (hB10.cell rfl)) (by decide) ?_
  refine sr_end (l' := [(0, .pointer (some ⟨gd_0, 0, none⟩)), (2, str last_2), (4, .pointer (some ⟨g6, 0, none⟩)), (6, .pointer (some ⟨g11, 0, none⟩)), (7, .pointer (some ⟨g16, 0, none⟩)), (9, .int .i64 o_1.Kind)]) (.cons rfl (.cons rfl (.cons rfl (.cons rfl (.cons rfl (.cons rfl (.nil _))))))) ?_
  refine ke_block ?_
  refine ke_seq ?_
  refine ke_region ?_
  refine sr_ev (v := .bool (o_1.Kind == 1)) (ev_eq rfl rfl) (by decide) ?_
  refine sr_ev (v := .bool (o_1.Kind == 1)) (ev_assign rfl) (by decide) ?_
  refine sr_end (l' := [(0, .pointer (some ⟨gd_0, 0, none⟩)), (2, str last_2), (4, .pointer (some ⟨g6, 0, none⟩)), (6, .pointer (some ⟨g11, 0, none⟩)), (7, .pointer (some ⟨g16, 0, none⟩)), (9, .int .i64 o_1.Kind), (10, .bool (o_1.Kind == 1))]) (.cons rfl (.cons rfl (.cons rfl (.cons rfl (.cons rfl (.cons rfl (.cons rfl (.nil _)))))))) ?_
  refine ke_cond (t := o_1.Kind == 1) rfl (fun hc21 => ?_) (fun hc21 => ?_)
  · replace hS := ite_true' hS hc21
    refine ke_region ?_
    refine sr_ev (v := .pointer (some ⟨gd_0, 0, none⟩)) (ev_move rfl) (by decide) ?_
    refine sr_ev (v := .pointer (some ⟨g6, 1, none⟩)) (ev_fieldAddr (i := 1) Tryd.underlying39 rfl Tryd.info9 rfl rfl) (by decide) ?_
    refine sr_ev (v := str o_1.User) (ev_load Tryd.isAgg9 rfl (hB10.cell rfl)) (by decide) ?_
    refine sr_ev (v := .pointer (some ⟨g6, 2, none⟩)) (ev_fieldAddr (i := 2) Tryd.underlying39 rfl Tryd.info9 rfl rfl) (by decide) ?_
    refine sr_ev (v := str o_1.ID) (ev_load Tryd.isAgg9 rfl (hB10.cell rfl)) (by decide) ?_
    refine sr_ev (v := .pointer (some ⟨g6, 3, none⟩)) (ev_fieldAddr (i := 3) Tryd.underlying39 rfl Tryd.info9 rfl rfl) (by decide) ?_
    refine sr_ev (v := str o_1.Secret) (ev_load Tryd.isAgg9 rfl (hB10.cell rfl)) (by decide) ?_
    refine sr_ev (v := .pointer (some ⟨g6, 4, none⟩)) (ev_fieldAddr (i := 4) Tryd.underlying39 rfl Tryd.info3 rfl rfl) (by decide) ?_
    refine sr_ev (v := .int .i64 o_1.Until) (ev_load Tryd.isAgg3 rfl (hB10.cell rfl)) (by decide) ?_
    refine sr_ev (v := .pointer (some ⟨g6, 5, none⟩)) (ev_fieldAddr (i := 5) Tryd.underlying39 rfl Tryd.info3 rfl rfl) (by decide) ?_
    refine sr_ev (v := .int .i64 o_1.Now) (ev_load Tryd.isAgg3 rfl (hB10.cell rfl)) (by decide) ?_
    obtain ⟨y22, hy23, hS⟩ := bind_some' hS
    refine sr_call (vs := [.pointer (some ⟨gd_0, 0, none⟩), str o_1.User, str o_1.ID, str o_1.Secret, .int .i64 o_1.Until, .int .i64 o_1.Now]) rfl Tryd.call17 rfl (device_Devices_Trust_ok _ (hg.fr hz hb) (ρA := ρ17) hb.bd (hz.fr hg hb) (o := 100) (by decide) (⟨_, hB3, h2⟩ : device_Devices.O (fun p => 100 + p) ρ17 w18 gd_0 d_0) hy23) (by decide) ?_
    rintro _ w24 ⟨ρ30, rfl, ⟨v27, hB29, h28⟩, htr26⟩
    replace hB20 := hB20.mv (htr26.mv (i := 9) rfl)
    replace hB15 := hB15.mv (htr26.mv (i := 8) rfl)
    replace hb := hb.trans htr26
    replace hB29 : Blk ρ30 100 w24 gd_0 (.cells #[v27, .int .i64 y22.2.given] 62 (0, 0)) := hB29
    replace h28 : MapT device_key.ek device_record.c true ρ30 101 w24 v27 y22.2.records := h28
    refine sr_ev (v := .pointer (some ⟨g16, 4, none⟩)) (ev_fieldAddr (i := 4) Tryd.underlying46 rfl Tryd.info30 rfl rfl) (by decide) ?_
    refine sr_storeT (v := .int .i64 y22.1) (vs := [.int .i64 y22.1]) (cs' := #[str ([]), (.slice none 0 0), .int .i64 0, .bool false, .int .i64 y22.1]) hB20 (by decide) hb.bd rfl rfl rfl Tryd.sizeOf30 rfl rfl rfl ?_
    intro w31 hB201 htr32
    replace hB15 := hB15.mv (htr32.mv (i := 8) rfl)
    replace hB29 := hB29.mv (htr32.mv (i := 100) rfl)
    replace h28 := h28.mv (htr32.mv (i := 101) rfl)
    replace hb := hb.trans htr32
    replace hB20 : Blk ρ30 9 w31 g16 (.cells #[str ([]), (.slice none 0 0), .int .i64 0, .bool false, .int .i64 y22.1] 46 (0, 0)) := hB201
    clear hB201
    refine sr_end (l' := [(6, .pointer (some ⟨g11, 0, none⟩)), (7, .pointer (some ⟨g16, 0, none⟩))]) (.cons rfl (.cons rfl (.nil _))) ?_
    have hK := law37_do_B1_ok hg hbd ho2 hz hS hb SlR.nil hB15 SlR.nil hB20 ⟨_, hB29, h28⟩
    exact ke_weaken (l' := [(6, .pointer (some ⟨g11, 0, none⟩)), (7, .pointer (some ⟨g16, 0, none⟩))]) (.cons rfl (.cons rfl (.nil _))) hK
  · replace hS := ite_false' hS hc21
    refine ke_seq ?_
    refine ke_region ?_
    refine sr_ev (v := .bool (o_1.Kind == 2)) (ev_eq rfl rfl) (by decide) ?_
    refine sr_ev (v := .bool (o_1.Kind == 2)) (ev_assign rfl) (by decide) ?_
    refine sr_end (l' := [(0, .pointer (some ⟨gd_0, 0, none⟩)), (2, str last_2), (4, .pointer (some ⟨g6, 0, none⟩)), (6, .pointer (some ⟨g11, 0, none⟩)), (7, .pointer (some ⟨g16, 0, none⟩)), (9, .int .i64 o_1.Kind), (25, .bool (o_1.Kind == 2))]) (.cons rfl (.cons rfl (.cons rfl (.cons rfl (.cons rfl (.cons rfl (.cons rfl (.nil _)))))))) ?_
    refine ke_cond (t := o_1.Kind == 2) rfl (fun hc40 => ?_) (fun hc40 => ?_)
    · replace hS := ite_true' hS hc40
      refine ke_region ?_
      refine sr_ev (v := .pointer (some ⟨gd_0, 0, none⟩)) (ev_move rfl) (by decide) ?_
      refine sr_ev (v := .pointer (some ⟨g6, 1, none⟩)) (ev_fieldAddr (i := 1) Tryd.underlying39 rfl Tryd.info9 rfl rfl) (by decide) ?_
      refine sr_ev (v := str o_1.User) (ev_load Tryd.isAgg9 rfl (hB10.cell rfl)) (by decide) ?_
      refine sr_ev (v := .pointer (some ⟨g6, 2, none⟩)) (ev_fieldAddr (i := 2) Tryd.underlying39 rfl Tryd.info9 rfl rfl) (by decide) ?_
      refine sr_ev (v := str o_1.ID) (ev_load Tryd.isAgg9 rfl (hB10.cell rfl)) (by decide) ?_
      refine sr_ev (v := .pointer (some ⟨g6, 5, none⟩)) (ev_fieldAddr (i := 5) Tryd.underlying39 rfl Tryd.info3 rfl rfl) (by decide) ?_
      refine sr_ev (v := .int .i64 o_1.Now) (ev_load Tryd.isAgg3 rfl (hB10.cell rfl)) (by decide) ?_
      obtain ⟨y41, hy42, hS⟩ := bind_some' hS
      refine sr_call (vs := [.pointer (some ⟨gd_0, 0, none⟩), str o_1.User, str o_1.ID, .int .i64 o_1.Now]) rfl Tryd.call12 rfl (device_Devices_Challenge_ok _ (hg.fr hz hb) (ρA := ρ17) hb.bd (hz.fr hg hb) (o := 100) (by decide) (⟨_, hB3, h2⟩ : device_Devices.O (fun p => 100 + p) ρ17 w18 gd_0 d_0) hy42) (by decide) ?_
      rintro _ w43 ⟨ρ49, rfl, ⟨v46, hB48, h47⟩, htr45⟩
      replace hB20 := hB20.mv (htr45.mv (i := 9) rfl)
      replace hB15 := hB15.mv (htr45.mv (i := 8) rfl)
      replace hb := hb.trans htr45
      replace hB48 : Blk ρ49 100 w43 gd_0 (.cells #[v46, .int .i64 y41.2.2.given] 62 (0, 0)) := hB48
      replace h47 : MapT device_key.ek device_record.c true ρ49 101 w43 v46 y41.2.2.records := h47
      refine sr_ev (v := .tuple #[str y41.1, .int .i64 y41.2.1]) (ev_move rfl) (by decide) ?_
      refine sr_ev (v := str y41.1) (ev_extract rfl rfl) (by decide) ?_
      refine sr_ev (v := .int .i64 y41.2.1) (ev_extract rfl rfl) (by decide) ?_
      refine sr_ev (v := .pointer (some ⟨g16, 0, none⟩)) (ev_fieldAddr (i := 0) Tryd.underlying46 rfl Tryd.info9 rfl rfl) (by decide) ?_
      refine sr_storeT (v := str y41.1) (vs := [str y41.1]) (cs' := #[str y41.1, (.slice none 0 0), .int .i64 0, .bool false, .int .i64 0]) hB20 (by decide) hb.bd rfl rfl rfl Tryd.sizeOf9 rfl rfl rfl ?_
      intro w50 hB201 htr51
      replace hB15 := hB15.mv (htr51.mv (i := 8) rfl)
      replace hB48 := hB48.mv (htr51.mv (i := 100) rfl)
      replace h47 := h47.mv (htr51.mv (i := 101) rfl)
      replace hb := hb.trans htr51
      replace hB20 : Blk ρ49 9 w50 g16 (.cells #[str y41.1, (.slice none 0 0), .int .i64 0, .bool false, .int .i64 0] 46 (0, 0)) := hB201
      clear hB201
      refine sr_ev (v := .pointer (some ⟨g16, 4, none⟩)) (ev_fieldAddr (i := 4) Tryd.underlying46 rfl Tryd.info30 rfl rfl) (by decide) ?_
      refine sr_storeT (v := .int .i64 y41.2.1) (vs := [.int .i64 y41.2.1]) (cs' := #[str y41.1, (.slice none 0 0), .int .i64 0, .bool false, .int .i64 y41.2.1]) hB20 (by decide) hb.bd rfl rfl rfl Tryd.sizeOf30 rfl rfl rfl ?_
      intro w52 hB201 htr53
      replace hB15 := hB15.mv (htr53.mv (i := 8) rfl)
      replace hB48 := hB48.mv (htr53.mv (i := 100) rfl)
      replace h47 := h47.mv (htr53.mv (i := 101) rfl)
      replace hb := hb.trans htr53
      replace hB20 : Blk ρ49 9 w52 g16 (.cells #[str y41.1, (.slice none 0 0), .int .i64 0, .bool false, .int .i64 y41.2.1] 46 (0, 0)) := hB201
      clear hB201
      refine sr_end (l' := [(6, .pointer (some ⟨g11, 0, none⟩)), (7, .pointer (some ⟨g16, 0, none⟩))]) (.cons rfl (.cons rfl (.nil _))) ?_
      have hK := law37_do_B1_ok hg hbd ho2 hz hS hb SlR.nil hB15 SlR.nil hB20 ⟨_, hB48, h47⟩
      exact ke_weaken (l' := [(6, .pointer (some ⟨g11, 0, none⟩)), (7, .pointer (some ⟨g16, 0, none⟩))]) (.cons rfl (.cons rfl (.nil _))) hK
    · replace hS := ite_false' hS hc40
      refine ke_seq ?_
      refine ke_region ?_
      refine sr_ev (v := .bool (o_1.Kind == 3)) (ev_eq rfl rfl) (by decide) ?_
      refine sr_ev (v := .bool (o_1.Kind == 3)) (ev_assign rfl) (by decide) ?_
      refine sr_end (l' := [(0, .pointer (some ⟨gd_0, 0, none⟩)), (2, str last_2), (4, .pointer (some ⟨g6, 0, none⟩)), (6, .pointer (some ⟨g11, 0, none⟩)), (7, .pointer (some ⟨g16, 0, none⟩)), (9, .int .i64 o_1.Kind), (40, .bool (o_1.Kind == 3))]) (.cons rfl (.cons rfl (.cons rfl (.cons rfl (.cons rfl (.cons rfl (.cons rfl (.nil _)))))))) ?_
      refine ke_cond (t := o_1.Kind == 3) rfl (fun hc54 => ?_) (fun hc54 => ?_)
      · replace hS := ite_true' hS hc54
        refine ke_region ?_
        refine sr_ev (v := .pointer (some ⟨gd_0, 0, none⟩)) (ev_move rfl) (by decide) ?_
        refine sr_ev (v := .pointer (some ⟨g6, 1, none⟩)) (ev_fieldAddr (i := 1) Tryd.underlying39 rfl Tryd.info9 rfl rfl) (by decide) ?_
        refine sr_ev (v := str o_1.User) (ev_load Tryd.isAgg9 rfl (hB10.cell rfl)) (by decide) ?_
        refine sr_ev (v := .pointer (some ⟨g6, 2, none⟩)) (ev_fieldAddr (i := 2) Tryd.underlying39 rfl Tryd.info9 rfl rfl) (by decide) ?_
        refine sr_ev (v := str o_1.ID) (ev_load Tryd.isAgg9 rfl (hB10.cell rfl)) (by decide) ?_
        refine sr_ev (v := .pointer (some ⟨g6, 3, none⟩)) (ev_fieldAddr (i := 3) Tryd.underlying39 rfl Tryd.info9 rfl rfl) (by decide) ?_
        refine sr_ev (v := str o_1.Secret) (ev_load Tryd.isAgg9 rfl (hB10.cell rfl)) (by decide) ?_
        refine sr_ev (v := .pointer (some ⟨g6, 5, none⟩)) (ev_fieldAddr (i := 5) Tryd.underlying39 rfl Tryd.info3 rfl rfl) (by decide) ?_
        refine sr_ev (v := .int .i64 o_1.Now) (ev_load Tryd.isAgg3 rfl (hB10.cell rfl)) (by decide) ?_
        obtain ⟨y55, hy56, hS⟩ := bind_some' hS
        refine sr_call (vs := [.pointer (some ⟨gd_0, 0, none⟩), str o_1.User, str o_1.ID, str o_1.Secret, .int .i64 o_1.Now]) rfl Tryd.call15 rfl (device_Devices_Prove_ok _ (hg.fr hz hb) (ρA := ρ17) hb.bd (hz.fr hg hb) (o := 100) (by decide) (⟨_, hB3, h2⟩ : device_Devices.O (fun p => 100 + p) ρ17 w18 gd_0 d_0) hy56) (by decide) ?_
        rintro _ w57 ⟨ρ63, rfl, ⟨v60, hB62, h61⟩, htr59⟩
        replace hB20 := hB20.mv (htr59.mv (i := 9) rfl)
        replace hB15 := hB15.mv (htr59.mv (i := 8) rfl)
        replace hb := hb.trans htr59
        replace hB62 : Blk ρ63 100 w57 gd_0 (.cells #[v60, .int .i64 y55.2.given] 62 (0, 0)) := hB62
        replace h61 : MapT device_key.ek device_record.c true ρ63 101 w57 v60 y55.2.records := h61
        refine sr_ev (v := .pointer (some ⟨g16, 4, none⟩)) (ev_fieldAddr (i := 4) Tryd.underlying46 rfl Tryd.info30 rfl rfl) (by decide) ?_
        refine sr_storeT (v := .int .i64 y55.1) (vs := [.int .i64 y55.1]) (cs' := #[str ([]), (.slice none 0 0), .int .i64 0, .bool false, .int .i64 y55.1]) hB20 (by decide) hb.bd rfl rfl rfl Tryd.sizeOf30 rfl rfl rfl ?_
        intro w64 hB201 htr65
        replace hB15 := hB15.mv (htr65.mv (i := 8) rfl)
        replace hB62 := hB62.mv (htr65.mv (i := 100) rfl)
        replace h61 := h61.mv (htr65.mv (i := 101) rfl)
        replace hb := hb.trans htr65
        replace hB20 : Blk ρ63 9 w64 g16 (.cells #[str ([]), (.slice none 0 0), .int .i64 0, .bool false, .int .i64 y55.1] 46 (0, 0)) := hB201
        clear hB201
        refine sr_end (l' := [(6, .pointer (some ⟨g11, 0, none⟩)), (7, .pointer (some ⟨g16, 0, none⟩))]) (.cons rfl (.cons rfl (.nil _))) ?_
        have hK := law37_do_B1_ok hg hbd ho2 hz hS hb SlR.nil hB15 SlR.nil hB20 ⟨_, hB62, h61⟩
        exact ke_weaken (l' := [(6, .pointer (some ⟨g11, 0, none⟩)), (7, .pointer (some ⟨g16, 0, none⟩))]) (.cons rfl (.cons rfl (.nil _))) hK
      · replace hS := ite_false' hS hc54
        refine ke_seq ?_
        refine ke_region ?_
        refine sr_ev (v := .bool (o_1.Kind == 4)) (ev_eq rfl rfl) (by decide) ?_
        refine sr_ev (v := .bool (o_1.Kind == 4)) (ev_assign rfl) (by decide) ?_
        refine sr_end (l' := [(0, .pointer (some ⟨gd_0, 0, none⟩)), (2, str last_2), (4, .pointer (some ⟨g6, 0, none⟩)), (6, .pointer (some ⟨g11, 0, none⟩)), (7, .pointer (some ⟨g16, 0, none⟩)), (9, .int .i64 o_1.Kind), (53, .bool (o_1.Kind == 4))]) (.cons rfl (.cons rfl (.cons rfl (.cons rfl (.cons rfl (.cons rfl (.cons rfl (.nil _)))))))) ?_
        refine ke_cond (t := o_1.Kind == 4) rfl (fun hc66 => ?_) (fun hc66 => ?_)
        · replace hS := ite_true' hS hc66
          refine ke_region_j (ρ := ρ17) (fun t => ([9, 100, 101] : List Nat).contains t) 14 Tryd.mixed (fun w68 hw67 => ?_)
          have htr69 := Tr.of_below hw67 hb.bd
          replace hB20 := hB20.mv (htr69.mv (i := 9) rfl)
          replace hB15 := hB15.mv (htr69.mv (i := 8) rfl)
          replace hB10 := hB10.mv (htr69.mv (i := 6) rfl)
          replace hB3 := hB3.mv (htr69.mv (i := 100) rfl)
          replace h2 := h2.mv (htr69.mv (i := 101) rfl)
          replace hb := hb.trans htr69
          refine dj_H 0 (v := .pointer (some ⟨gd_0, 0, none⟩)) (by kernel_rfl) (by kernel_rfl) rfl (fun _ _ _ h => h) (sj_refl hb.bd rfl rfl) (fun w1 ρ1 hw1 => ev_move rfl) (by decide) ?_
          refine dj_H 1 (v := .pointer (some ⟨g6, 1, none⟩)) (by kernel_rfl) (by kernel_rfl) rfl (fun _ _ _ h => h) (sj_refl hb.bd rfl rfl) (fun w1 ρ1 hw1 => ev_fieldAddr (i := 1) Tryd.underlying39 rfl Tryd.info9 rfl rfl) (by decide) ?_
          refine dj_H 2 (v := str o_1.User) (by kernel_rfl) (by kernel_rfl) rfl (fun _ _ _ h => h) (sj_refl hb.bd rfl rfl) (fun w1 ρ1 hw1 => ev_load Tryd.isAgg9 rfl ((hB10.mv (hw1.mv (i := 6) rfl)).cell rfl)) (by decide) ?_
          refine dj_H 3 (v := .pointer (some ⟨g6, 2, none⟩)) (by kernel_rfl) (by kernel_rfl) rfl (fun _ _ _ h => h) (sj_refl hb.bd rfl rfl) (fun w1 ρ1 hw1 => ev_fieldAddr (i := 2) Tryd.underlying39 rfl Tryd.info9 rfl rfl) (by decide) ?_
          refine dj_H 4 (v := str o_1.ID) (by kernel_rfl) (by kernel_rfl) rfl (fun _ _ _ h => h) (sj_refl hb.bd rfl rfl) (fun w1 ρ1 hw1 => ev_load Tryd.isAgg9 rfl ((hB10.mv (hw1.mv (i := 6) rfl)).cell rfl)) (by decide) ?_
          refine dj_H 5 (v := .pointer (some ⟨g6, 3, none⟩)) (by kernel_rfl) (by kernel_rfl) rfl (fun _ _ _ h => h) (sj_refl hb.bd rfl rfl) (fun w1 ρ1 hw1 => ev_fieldAddr (i := 3) Tryd.underlying39 rfl Tryd.info9 rfl rfl) (by decide) ?_
          refine dj_H 6 (v := str o_1.Secret) (by kernel_rfl) (by kernel_rfl) rfl (fun _ _ _ h => h) (sj_refl hb.bd rfl rfl) (fun w1 ρ1 hw1 => ev_load Tryd.isAgg9 rfl ((hB10.mv (hw1.mv (i := 6) rfl)).cell rfl)) (by decide) ?_
          refine dj_H 7 (v := str last_2) (by kernel_rfl) (by kernel_rfl) rfl (fun _ _ _ h => h) (sj_refl hb.bd rfl rfl) (fun w1 ρ1 hw1 => ev_move rfl) (by decide) ?_
          refine dj_H 9 (v := .pointer (some ⟨g6, 5, none⟩)) (by kernel_rfl) (by kernel_rfl) rfl (fun _ _ _ h => h) (sj_refl hb.bd rfl rfl) (fun w1 ρ1 hw1 => ev_fieldAddr (i := 5) Tryd.underlying39 rfl Tryd.info3 rfl rfl) (by decide) ?_
          refine dj_H 10 (v := .int .i64 o_1.Now) (by kernel_rfl) (by kernel_rfl) rfl (fun _ _ _ h => h) (sj_refl hb.bd rfl rfl) (fun w1 ρ1 hw1 => ev_load Tryd.isAgg3 rfl ((hB10.mv (hw1.mv (i := 6) rfl)).cell rfl)) (by decide) ?_
          refine dj_E 8 (by kernel_rfl) rfl ?_
          have jt109 : Tr ρ17 w68 (fun t => ([9, 100, 101] : List Nat).contains t) ρ17 w68 := (Tr.refl hb.bd).weak (fun _ _ => rfl) rfl rfl
          obtain ⟨y110, hy111, hS⟩ := bind_some' hS
          refine sr_call (vs := [str o_1.Secret, str last_2]) rfl Tryd.call14 rfl (device_Answer_ok _ (hg.fr hz hb) hy111) (by decide) ?_
          rintro _ w112 ⟨rfl, hbw113⟩
          have htr114 := Tr.of_below hbw113 hb.bd
          replace hB20 := hB20.mv (htr114.mv (i := 9) rfl)
          replace hB15 := hB15.mv (htr114.mv (i := 8) rfl)
          replace hB10 := hB10.mv (htr114.mv (i := 6) rfl)
          replace hB3 := hB3.mv (htr114.mv (i := 100) rfl)
          replace h2 := h2.mv (htr114.mv (i := 101) rfl)
          replace hb := hb.trans htr114
          replace jt109 := (jt109.trans htr114).weak (J' := (fun t => ([9, 100, 101] : List Nat).contains t)) (by intro t h; simp [rng] at h ⊢ <;> omega) rfl rfl
          refine dj_next (l' := [(6, .pointer (some ⟨g11, 0, none⟩)), (7, .pointer (some ⟨g16, 0, none⟩)), (55, .pointer (some ⟨gd_0, 0, none⟩)), (57, str o_1.User), (59, str o_1.ID), (63, str y110), (65, .int .i64 o_1.Now)]) rfl (.cons rfl (.cons rfl (.cons rfl (.cons rfl (.cons rfl (.cons rfl (.cons rfl (.nil _)))))))) jt109 (by intro t h; simp [rng] at h ⊢ <;> omega) rfl rfl ?_
          refine dj_E 11 (by kernel_rfl) rfl ?_
          have jt115 : Tr ρ17 w112 (fun t => ([9, 100, 101] : List Nat).contains t) ρ17 w112 := (Tr.refl hb.bd).weak (fun _ _ => rfl) rfl rfl
          obtain ⟨y116, hy117, hS⟩ := bind_some' hS
          refine sr_call (vs := [.pointer (some ⟨gd_0, 0, none⟩), str o_1.User, str o_1.ID, str y110, .int .i64 o_1.Now]) rfl Tryd.call15 rfl (device_Devices_Prove_ok _ (hg.fr hz hb) (ρA := ρ17) hb.bd (hz.fr hg hb) (o := 100) (by decide) (⟨_, hB3, h2⟩ : device_Devices.O (fun p => 100 + p) ρ17 w112 gd_0 d_0) hy117) (by decide) ?_
          rintro _ w118 ⟨ρ124, rfl, ⟨v121, hB123, h122⟩, htr120⟩
          replace hB20 := hB20.mv (htr120.mv (i := 9) rfl)
          replace hB15 := hB15.mv (htr120.mv (i := 8) rfl)
          replace hb := hb.trans htr120
          replace jt115 := (jt115.trans htr120).weak (J' := (fun t => ([9, 100, 101] : List Nat).contains t)) (by intro t h; simp [rng] at h ⊢ <;> omega) rfl rfl
          replace hB123 : Blk ρ124 100 w118 gd_0 (.cells #[v121, .int .i64 y116.2.given] 62 (0, 0)) := hB123
          replace h122 : MapT device_key.ek device_record.c true ρ124 101 w118 v121 y116.2.records := h122
          refine dj_next (l' := [(6, .pointer (some ⟨g11, 0, none⟩)), (7, .pointer (some ⟨g16, 0, none⟩)), (66, .int .i64 y116.1)]) rfl (.cons rfl (.cons rfl (.cons rfl (.nil _)))) jt115 (by intro t h; simp [rng] at h ⊢ <;> omega) rfl rfl ?_
          refine dj_H 12 (v := .pointer (some ⟨g16, 4, none⟩)) (by kernel_rfl) (by kernel_rfl) rfl (fun _ _ _ h => h) (sj_refl hb.bd rfl rfl) (fun w1 ρ1 hw1 => ev_fieldAddr (i := 4) Tryd.underlying46 rfl Tryd.info30 rfl rfl) (by decide) ?_
          refine dj_E 13 (by kernel_rfl) rfl ?_
          have jt125 : Tr ρ124 w118 (fun t => ([9, 100, 101] : List Nat).contains t) ρ124 w118 := (Tr.refl hb.bd).weak (fun _ _ => rfl) rfl rfl
          refine sr_storeT (v := .int .i64 y116.1) (vs := [.int .i64 y116.1]) (cs' := #[str ([]), (.slice none 0 0), .int .i64 0, .bool false, .int .i64 y116.1]) hB20 (by decide) hb.bd rfl rfl rfl Tryd.sizeOf30 rfl rfl rfl ?_
          intro w126 hB201 htr127
          replace hB15 := hB15.mv (htr127.mv (i := 8) rfl)
          replace hB123 := hB123.mv (htr127.mv (i := 100) rfl)
          replace h122 := h122.mv (htr127.mv (i := 101) rfl)
          replace hb := hb.trans htr127
          replace jt125 := (jt125.trans htr127).weak (J' := (fun t => ([9, 100, 101] : List Nat).contains t)) (by intro t h; simp [rng] at h ⊢ <;> omega) rfl rfl
          replace hB20 : Blk ρ124 9 w126 g16 (.cells #[str ([]), (.slice none 0 0), .int .i64 0, .bool false, .int .i64 y116.1] 46 (0, 0)) := hB201
          clear hB201
          refine dj_next (l' := [(6, .pointer (some ⟨g11, 0, none⟩)), (7, .pointer (some ⟨g16, 0, none⟩))]) rfl (.cons rfl (.cons rfl (.nil _))) jt125 (by intro t h; simp [rng] at h ⊢ <;> omega) rfl rfl ?_
          refine dj_done rfl (by kernel_rfl) ?_
          refine ke_weaken (l' := [(6, .pointer (some ⟨g11, 0, none⟩)), (7, .pointer (some ⟨g16, 0, none⟩))]) (.cons rfl (.cons rfl (.nil _))) ?_
          have hK := law37_do_B1_ok hg hbd ho2 hz hS hb SlR.nil hB15 SlR.nil hB20 ⟨_, hB123, h122⟩
          exact ke_weaken (l' := [(6, .pointer (some ⟨g11, 0, none⟩)), (7, .pointer (some ⟨g16, 0, none⟩))]) (.cons rfl (.cons rfl (.nil _))) hK
        · replace hS := ite_false' hS hc66
          refine ke_seq ?_
          refine ke_region ?_
          refine sr_ev (v := .bool (o_1.Kind == 5)) (ev_eq rfl rfl) (by decide) ?_
          refine sr_ev (v := .bool (o_1.Kind == 5)) (ev_assign rfl) (by decide) ?_
          refine sr_end (l' := [(0, .pointer (some ⟨gd_0, 0, none⟩)), (4, .pointer (some ⟨g6, 0, none⟩)), (6, .pointer (some ⟨g11, 0, none⟩)), (7, .pointer (some ⟨g16, 0, none⟩)), (9, .int .i64 o_1.Kind), (68, .bool (o_1.Kind == 5))]) (.cons rfl (.cons rfl (.cons rfl (.cons rfl (.cons rfl (.cons rfl (.nil _))))))) ?_
          refine ke_cond (t := o_1.Kind == 5) rfl (fun hc128 => ?_) (fun hc128 => ?_)
          · replace hS := ite_true' hS hc128
            refine ke_region ?_
            refine sr_ev (v := .pointer (some ⟨gd_0, 0, none⟩)) (ev_move rfl) (by decide) ?_
            refine sr_ev (v := .pointer (some ⟨g6, 1, none⟩)) (ev_fieldAddr (i := 1) Tryd.underlying39 rfl Tryd.info9 rfl rfl) (by decide) ?_
            refine sr_ev (v := str o_1.User) (ev_load Tryd.isAgg9 rfl (hB10.cell rfl)) (by decide) ?_
            refine sr_ev (v := .pointer (some ⟨g6, 2, none⟩)) (ev_fieldAddr (i := 2) Tryd.underlying39 rfl Tryd.info9 rfl rfl) (by decide) ?_
            refine sr_ev (v := str o_1.ID) (ev_load Tryd.isAgg9 rfl (hB10.cell rfl)) (by decide) ?_
            obtain ⟨y129, hy130, hS⟩ := bind_some' hS
            refine sr_call (vs := [.pointer (some ⟨gd_0, 0, none⟩), str o_1.User, str o_1.ID]) rfl Tryd.call27 rfl (device_Devices_Revoke_ok _ (hg.fr hz hb) (ρA := ρ17) hb.bd (hz.fr hg hb) (o := 100) (by decide) (⟨_, hB3, h2⟩ : device_Devices.O (fun p => 100 + p) ρ17 w18 gd_0 d_0) hy130) (by decide) ?_
            rintro _ w131 ⟨ρ137, rfl, ⟨v134, hB136, h135⟩, htr133⟩
            replace hB20 := hB20.mv (htr133.mv (i := 9) rfl)
            replace hB15 := hB15.mv (htr133.mv (i := 8) rfl)
            replace hb := hb.trans htr133
            replace hB136 : Blk ρ137 100 w131 gd_0 (.cells #[v134, .int .i64 y129.2.given] 62 (0, 0)) := hB136
            replace h135 : MapT device_key.ek device_record.c true ρ137 101 w131 v134 y129.2.records := h135
            refine sr_ev (v := .pointer (some ⟨g16, 3, none⟩)) (ev_fieldAddr (i := 3) Tryd.underlying46 rfl Tryd.info4 rfl rfl) (by decide) ?_
            refine sr_storeT (v := .bool y129.1) (vs := [.bool y129.1]) (cs' := #[str ([]), (.slice none 0 0), .int .i64 0, .bool y129.1, .int .i64 0]) hB20 (by decide) hb.bd rfl rfl rfl Tryd.sizeOf4 rfl rfl rfl ?_
            intro w138 hB201 htr139
            replace hB15 := hB15.mv (htr139.mv (i := 8) rfl)
            replace hB136 := hB136.mv (htr139.mv (i := 100) rfl)
            replace h135 := h135.mv (htr139.mv (i := 101) rfl)
            replace hb := hb.trans htr139
            replace hB20 : Blk ρ137 9 w138 g16 (.cells #[str ([]), (.slice none 0 0), .int .i64 0, .bool y129.1, .int .i64 0] 46 (0, 0)) := hB201
            clear hB201
            refine sr_end (l' := [(6, .pointer (some ⟨g11, 0, none⟩)), (7, .pointer (some ⟨g16, 0, none⟩))]) (.cons rfl (.cons rfl (.nil _))) ?_
            have hK := law37_do_B1_ok hg hbd ho2 hz hS hb SlR.nil hB15 SlR.nil hB20 ⟨_, hB136, h135⟩
            exact ke_weaken (l' := [(6, .pointer (some ⟨g11, 0, none⟩)), (7, .pointer (some ⟨g16, 0, none⟩))]) (.cons rfl (.cons rfl (.nil _))) hK
          · replace hS := ite_false' hS hc128
            refine ke_seq ?_
            refine ke_region ?_
            refine sr_ev (v := .bool (o_1.Kind == 6)) (ev_eq rfl rfl) (by decide) ?_
            refine sr_ev (v := .bool (o_1.Kind == 6)) (ev_assign rfl) (by decide) ?_
            refine sr_end (l' := [(0, .pointer (some ⟨gd_0, 0, none⟩)), (4, .pointer (some ⟨g6, 0, none⟩)), (6, .pointer (some ⟨g11, 0, none⟩)), (7, .pointer (some ⟨g16, 0, none⟩)), (9, .int .i64 o_1.Kind), (77, .bool (o_1.Kind == 6))]) (.cons rfl (.cons rfl (.cons rfl (.cons rfl (.cons rfl (.cons rfl (.nil _))))))) ?_
            refine ke_cond (t := o_1.Kind == 6) rfl (fun hc140 => ?_) (fun hc140 => ?_)
            · replace hS := ite_true' hS hc140
              refine ke_region ?_
              refine sr_ev (v := .pointer (some ⟨gd_0, 0, none⟩)) (ev_move rfl) (by decide) ?_
              refine sr_ev (v := .pointer (some ⟨g6, 1, none⟩)) (ev_fieldAddr (i := 1) Tryd.underlying39 rfl Tryd.info9 rfl rfl) (by decide) ?_
              refine sr_ev (v := str o_1.User) (ev_load Tryd.isAgg9 rfl (hB10.cell rfl)) (by decide) ?_
              refine sr_ev (v := .pointer (some ⟨g6, 5, none⟩)) (ev_fieldAddr (i := 5) Tryd.underlying39 rfl Tryd.info3 rfl rfl) (by decide) ?_
              refine sr_ev (v := .int .i64 o_1.Now) (ev_load Tryd.isAgg3 rfl (hB10.cell rfl)) (by decide) ?_
              obtain ⟨y141, hy142, hS⟩ := bind_some' hS
              refine sr_call (vs := [.pointer (some ⟨gd_0, 0, none⟩), str o_1.User, .int .i64 o_1.Now]) rfl Tryd.call23 rfl (device_Devices_List_ok _ (hg.fr hz hb) (ρA := ρ17) hb.bd (hz.fr hg hb) (τ0 := (fun p => 100 + p)) (fun p => Nat.le_add_right_of_le (by decide)) (⟨_, hB3, h2⟩ : device_Devices.O (fun p => 100 + p) ρ17 w18 gd_0 d_0) hy142) (by decide) ?_
              rintro v146 w143 ⟨_, rfl, h147, hbw144⟩
              have htr145 := Tr.of_below hbw144 hb.bd
              replace hB20 := hB20.mv (htr145.mv (i := 9) rfl)
              replace hB15 := hB15.mv (htr145.mv (i := 8) rfl)
              replace hB3 := hB3.mv (htr145.mv (i := 100) rfl)
              replace h2 := h2.mv (htr145.mv (i := 101) rfl)
              replace hb := hb.trans htr145
              refine sr_ev (v := .pointer (some ⟨g16, 1, none⟩)) (ev_fieldAddr (i := 1) Tryd.underlying46 rfl Tryd.info26 rfl rfl) (by decide) ?_
              refine sr_storeT (v := v146) (vs := [v146]) (cs' := #[str ([]), v146, .int .i64 0, .bool false, .int .i64 0]) hB20 (by decide) hb.bd rfl rfl (one_cells (SlR.oneCell h147)) Tryd.sizeOf26 rfl (by first | rfl | (simp only [List.all_cons, List.all_nil, SlR.oneCell h147]; done) | (simp only [List.all_cons, List.all_nil, SlR.oneCell h147]; rfl)) rfl ?_
              intro w148 hB201 htr149
              replace h147 := h147.mv htr149.rd
              replace hB15 := hB15.mv (htr149.mv (i := 8) rfl)
              replace hB3 := hB3.mv (htr149.mv (i := 100) rfl)
              replace h2 := h2.mv (htr149.mv (i := 101) rfl)
              replace hb := hb.trans htr149
              replace hB20 : Blk ρ17 9 w148 g16 (.cells #[str ([]), v146, .int .i64 0, .bool false, .int .i64 0] 46 (0, 0)) := hB201
              clear hB201
              refine sr_end (l' := [(6, .pointer (some ⟨g11, 0, none⟩)), (7, .pointer (some ⟨g16, 0, none⟩))]) (.cons rfl (.cons rfl (.nil _))) ?_
              have hK := law37_do_B1_ok hg hbd ho2 hz hS hb SlR.nil hB15 h147 hB20 ⟨_, hB3, h2⟩
              exact ke_weaken (l' := [(6, .pointer (some ⟨g11, 0, none⟩)), (7, .pointer (some ⟨g16, 0, none⟩))]) (.cons rfl (.cons rfl (.nil _))) hK
            · replace hS := ite_false' hS hc140
              refine ke_seq ?_
              refine ke_region ?_
              refine sr_ev (v := .bool (o_1.Kind == 7)) (ev_eq rfl rfl) (by decide) ?_
              refine sr_ev (v := .bool (o_1.Kind == 7)) (ev_assign rfl) (by decide) ?_
              refine sr_end (l' := [(0, .pointer (some ⟨gd_0, 0, none⟩)), (4, .pointer (some ⟨g6, 0, none⟩)), (6, .pointer (some ⟨g11, 0, none⟩)), (7, .pointer (some ⟨g16, 0, none⟩)), (9, .int .i64 o_1.Kind), (86, .bool (o_1.Kind == 7))]) (.cons rfl (.cons rfl (.cons rfl (.cons rfl (.cons rfl (.cons rfl (.nil _))))))) ?_
              refine ke_cond (t := o_1.Kind == 7) rfl (fun hc150 => ?_) (fun hc150 => ?_)
              · replace hS := ite_true' hS hc150
                refine ke_region ?_
                refine sr_ev (v := .pointer (some ⟨gd_0, 0, none⟩)) (ev_move rfl) (by decide) ?_
                refine sr_ev (v := .pointer (some ⟨g6, 1, none⟩)) (ev_fieldAddr (i := 1) Tryd.underlying39 rfl Tryd.info9 rfl rfl) (by decide) ?_
                refine sr_ev (v := str o_1.User) (ev_load Tryd.isAgg9 rfl (hB10.cell rfl)) (by decide) ?_
                obtain ⟨y151, hy152, hS⟩ := bind_some' hS
                refine sr_call (vs := [.pointer (some ⟨gd_0, 0, none⟩), str o_1.User]) rfl Tryd.call24 rfl (device_Devices_Drop_ok _ (hg.fr hz hb) (ρA := ρ17) hb.bd (hz.fr hg hb) (o := 100) (by decide) (⟨_, hB3, h2⟩ : device_Devices.O (fun p => 100 + p) ρ17 w18 gd_0 d_0) hy152) (by decide) ?_
                rintro _ w153 ⟨ρ159, rfl, ⟨v156, hB158, h157⟩, htr155⟩
                replace hB20 := hB20.mv (htr155.mv (i := 9) rfl)
                replace hB15 := hB15.mv (htr155.mv (i := 8) rfl)
                replace hb := hb.trans htr155
                replace hB158 : Blk ρ159 100 w153 gd_0 (.cells #[v156, .int .i64 y151.2.given] 62 (0, 0)) := hB158
                replace h157 : MapT device_key.ek device_record.c true ρ159 101 w153 v156 y151.2.records := h157
                refine sr_ev (v := .pointer (some ⟨g16, 2, none⟩)) (ev_fieldAddr (i := 2) Tryd.underlying46 rfl Tryd.info3 rfl rfl) (by decide) ?_
                refine sr_storeT (v := .int .i64 y151.1) (vs := [.int .i64 y151.1]) (cs' := #[str ([]), (.slice none 0 0), .int .i64 y151.1, .bool false, .int .i64 0]) hB20 (by decide) hb.bd rfl rfl rfl Tryd.sizeOf3 rfl rfl rfl ?_
                intro w160 hB201 htr161
                replace hB15 := hB15.mv (htr161.mv (i := 8) rfl)
                replace hB158 := hB158.mv (htr161.mv (i := 100) rfl)
                replace h157 := h157.mv (htr161.mv (i := 101) rfl)
                replace hb := hb.trans htr161
                replace hB20 : Blk ρ159 9 w160 g16 (.cells #[str ([]), (.slice none 0 0), .int .i64 y151.1, .bool false, .int .i64 0] 46 (0, 0)) := hB201
                clear hB201
                refine sr_end (l' := [(6, .pointer (some ⟨g11, 0, none⟩)), (7, .pointer (some ⟨g16, 0, none⟩))]) (.cons rfl (.cons rfl (.nil _))) ?_
                have hK := law37_do_B1_ok hg hbd ho2 hz hS hb SlR.nil hB15 SlR.nil hB20 ⟨_, hB158, h157⟩
                exact ke_weaken (l' := [(6, .pointer (some ⟨g11, 0, none⟩)), (7, .pointer (some ⟨g16, 0, none⟩))]) (.cons rfl (.cons rfl (.nil _))) hK
              · replace hS := ite_false' hS hc150
                refine ke_seq ?_
                refine ke_region ?_
                refine sr_ev (v := .bool (o_1.Kind == 8)) (ev_eq rfl rfl) (by decide) ?_
                refine sr_ev (v := .bool (o_1.Kind == 8)) (ev_assign rfl) (by decide) ?_
                refine sr_end (l' := [(0, .pointer (some ⟨gd_0, 0, none⟩)), (4, .pointer (some ⟨g6, 0, none⟩)), (6, .pointer (some ⟨g11, 0, none⟩)), (7, .pointer (some ⟨g16, 0, none⟩)), (93, .bool (o_1.Kind == 8))]) (.cons rfl (.cons rfl (.cons rfl (.cons rfl (.cons rfl (.nil _)))))) ?_
                refine ke_cond (t := o_1.Kind == 8) rfl (fun hc162 => ?_) (fun hc162 => ?_)
                · replace hS := ite_true' hS hc162
                  refine ke_region ?_
                  refine sr_ev (v := .pointer (some ⟨gd_0, 0, none⟩)) (ev_move rfl) (by decide) ?_
                  refine sr_ev (v := .pointer (some ⟨g6, 1, none⟩)) (ev_fieldAddr (i := 1) Tryd.underlying39 rfl Tryd.info9 rfl rfl) (by decide) ?_
                  refine sr_ev (v := str o_1.User) (ev_load Tryd.isAgg9 rfl (hB10.cell rfl)) (by decide) ?_
                  refine sr_ev (v := .pointer (some ⟨g6, 2, none⟩)) (ev_fieldAddr (i := 2) Tryd.underlying39 rfl Tryd.info9 rfl rfl) (by decide) ?_
                  refine sr_ev (v := str o_1.ID) (ev_load Tryd.isAgg9 rfl (hB10.cell rfl)) (by decide) ?_
                  refine sr_ev (v := .pointer (some ⟨g6, 5, none⟩)) (ev_fieldAddr (i := 5) Tryd.underlying39 rfl Tryd.info3 rfl rfl) (by decide) ?_
                  refine sr_ev (v := .int .i64 o_1.Now) (ev_load Tryd.isAgg3 rfl (hB10.cell rfl)) (by decide) ?_
                  obtain ⟨y163, hy164, hS⟩ := bind_some' hS
                  refine sr_call (vs := [.pointer (some ⟨gd_0, 0, none⟩), str o_1.User, str o_1.ID, .int .i64 o_1.Now]) rfl Tryd.call13 rfl (device_Devices_Trusted_ok _ (hg.fr hz hb) (ρA := ρ17) hb.bd (hz.fr hg hb) (τ0 := (fun p => 100 + p)) (fun p => Nat.le_add_right_of_le (by decide)) (⟨_, hB3, h2⟩ : device_Devices.O (fun p => 100 + p) ρ17 w18 gd_0 d_0) hy164) (by decide) ?_
                  rintro _ w165 ⟨rfl, hbw166⟩
                  have htr167 := Tr.of_below hbw166 hb.bd
                  replace hB20 := hB20.mv (htr167.mv (i := 9) rfl)
                  replace hB15 := hB15.mv (htr167.mv (i := 8) rfl)
                  replace hB3 := hB3.mv (htr167.mv (i := 100) rfl)
                  replace h2 := h2.mv (htr167.mv (i := 101) rfl)
                  replace hb := hb.trans htr167
                  refine sr_ev (v := .pointer (some ⟨g16, 3, none⟩)) (ev_fieldAddr (i := 3) Tryd.underlying46 rfl Tryd.info4 rfl rfl) (by decide) ?_
                  refine sr_storeT (v := .bool y163) (vs := [.bool y163]) (cs' := #[str ([]), (.slice none 0 0), .int .i64 0, .bool y163, .int .i64 0]) hB20 (by decide) hb.bd rfl rfl rfl Tryd.sizeOf4 rfl rfl rfl ?_
                  intro w168 hB201 htr169
                  replace hB15 := hB15.mv (htr169.mv (i := 8) rfl)
                  replace hB3 := hB3.mv (htr169.mv (i := 100) rfl)
                  replace h2 := h2.mv (htr169.mv (i := 101) rfl)
                  replace hb := hb.trans htr169
                  replace hB20 : Blk ρ17 9 w168 g16 (.cells #[str ([]), (.slice none 0 0), .int .i64 0, .bool y163, .int .i64 0] 46 (0, 0)) := hB201
                  clear hB201
                  refine sr_end (l' := [(6, .pointer (some ⟨g11, 0, none⟩)), (7, .pointer (some ⟨g16, 0, none⟩))]) (.cons rfl (.cons rfl (.nil _))) ?_
                  have hK := law37_do_B1_ok hg hbd ho2 hz hS hb SlR.nil hB15 SlR.nil hB20 ⟨_, hB3, h2⟩
                  exact ke_weaken (l' := [(6, .pointer (some ⟨g11, 0, none⟩)), (7, .pointer (some ⟨g16, 0, none⟩))]) (.cons rfl (.cons rfl (.nil _))) hK
                · replace hS := ite_false' hS hc162
                  refine ke_skip ?_
                  have hK := law37_do_B1_ok hg hbd ho2 hz hS hb SlR.nil hB15 SlR.nil hB20 ⟨_, hB3, h2⟩
                  exact ke_weaken (l' := [(6, .pointer (some ⟨g11, 0, none⟩)), (7, .pointer (some ⟨g16, 0, none⟩))]) (.cons rfl (.cons rfl (.nil _))) hK
theorem law37_run_B2_ok {w0 : World} (hg : Gs w0) {ρA : Tags} (hbd : ∀ b, ρA b ≠ 0 → b < w0.heap.size) {o : Nat} (ho2 : 2 ≤ o) (hz : Gz (enter ρA o 2)) (r0 : List law37_Op → device_Devices → Str → Int → Int → Option (device_Devices × Str))
    (hr0 : ∀ {r : device_Devices × Str} {ops_0 : List law37_Op} {od_4 : device_Devices} {last_5 : Str} {t_10 : Int} {t_11 : Int} {vops_0 : Value} {gd_4 : Nat}, r0 ops_0 od_4 last_5 t_10 t_11 = some r → ∀ {ρ : Tags} {w : World}, (Fr (enter ρA o 2) w0 ρ w) → (SlR law37_Op.c (Wb ρ) w vops_0 ops_0) → (device_Devices.O (fun p => 100 + p) ρ w gd_4 od_4) → KE Tryd.prog 11 (Ret (fun v w' => ∃ ρ' gr0, v = .tuple #[.pointer (some ⟨gr0, 0, none⟩), str r.2] ∧ device_Devices.O (fun p => o + p) ρ' w' gr0 r.1 ∧ Tr ρA w0 (rng o 2) ρ' w')) 29 [.inLoop (sub (bodyOf Tryd.f11) [2, 2, 2, 1, 2, 2, 1]), .inBlock 0, .code (sub (bodyOf Tryd.f11) [2, 2, 2, 2])] [(0, vops_0), (4, .pointer (some ⟨gd_4, 0, none⟩)), (5, str last_5), (10, .int .i64 t_10), (11, .int .i64 t_11)] w) {r : device_Devices × Str} {ops_0 : List law37_Op} {od_4 : device_Devices} {last_5 : Str} {t_10 : Int} {t_11 : Int} {vops_0 : Value} {gd_4 : Nat} (hS : law37_run_B2 r0 ops_0 od_4 last_5 t_10 t_11 = some r) {ρ : Tags} {w : World} (hb : Fr (enter ρA o 2) w0 ρ w) (hops_0 : SlR law37_Op.c (Wb ρ) w vops_0 ops_0) (hod_4 : device_Devices.O (fun p => 100 + p) ρ w gd_4 od_4) :
    KE Tryd.prog 11 (Ret (fun v w' => ∃ ρ' gr0, v = .tuple #[.pointer (some ⟨gr0, 0, none⟩), str r.2] ∧ device_Devices.O (fun p => o + p) ρ' w' gr0 r.1 ∧ Tr ρA w0 (rng o 2) ρ' w')) 29 [.inBlock 1, .code (sub (bodyOf Tryd.f11) [2, 2, 2, 1, 2, 2, 1, 2, 2, 2]), .inLoop (sub (bodyOf Tryd.f11) [2, 2, 2, 1, 2, 2, 1]), .inBlock 0, .code (sub (bodyOf Tryd.f11) [2, 2, 2, 2])] [(0, vops_0), (4, .pointer (some ⟨gd_4, 0, none⟩)), (5, str last_5), (10, .int .i64 t_10), (11, .int .i64 t_11)] w := by
  unfold law37_run_B2 at hS
  obtain ⟨v43, hB45, h44⟩ := hod_4
  replace hB45 : Blk ρ 100 w gd_4 (.cells #[v43, .int .i64 od_4.given] 62 (0, 0)) := hB45
  replace h44 : MapT device_key.ek device_record.c true ρ 101 w v43 od_4.records := h44
  refine ke_inBlock ?_
  refine ke_region ?_
  refine sr_ev (v := .int .i64 (IntKind.i64.wrap (t_11 + 1))) (ev_add rfl rfl) (by decide) ?_
  refine sr_ev (v := .int .i64 (IntKind.i64.wrap (t_11 + 1))) (ev_move rfl) (by decide) ?_
  refine sr_end (l' := [(0, vops_0), (4, .pointer (some ⟨gd_4, 0, none⟩)), (5, str last_5), (10, .int .i64 t_10), (11, .int .i64 (IntKind.i64.wrap (t_11 + 1)))]) (.cons rfl (.cons rfl (.cons rfl (.cons rfl (.cons rfl (.nil _)))))) ?_
  have hK := hr0 hS hb hops_0 ⟨_, hB45, h44⟩
  exact ke_weaken (l' := [(0, vops_0), (4, .pointer (some ⟨gd_4, 0, none⟩)), (5, str last_5), (10, .int .i64 t_10), (11, .int .i64 (IntKind.i64.wrap (t_11 + 1)))]) (.cons rfl (.cons rfl (.cons rfl (.cons rfl (.cons rfl (.nil _)))))) hK
theorem law37_run_L1_ok {w0 : World} (hg : Gs w0) {ρA : Tags} (hbd : ∀ b, ρA b ≠ 0 → b < w0.heap.size) {o : Nat} (ho2 : 2 ≤ o) (hz : Gz (enter ρA o 2)) : ∀ (n : Nat), ∀ {r : device_Devices × Str} {ops_0 : List law37_Op} {od_4 : device_Devices} {last_5 : Str} {t_10 : Int} {t_11 : Int} {vops_0 : Value} {gd_4 : Nat}, law37_run_L1 n ops_0 od_4 last_5 t_10 t_11 = some r → ∀ {ρ : Tags} {w : World}, (Fr (enter ρA o 2) w0 ρ w) → (SlR law37_Op.c (Wb ρ) w vops_0 ops_0) → (device_Devices.O (fun p => 100 + p) ρ w gd_4 od_4) → KE Tryd.prog 11 (Ret (fun v w' => ∃ ρ' gr0, v = .tuple #[.pointer (some ⟨gr0, 0, none⟩), str r.2] ∧ device_Devices.O (fun p => o + p) ρ' w' gr0 r.1 ∧ Tr ρA w0 (rng o 2) ρ' w')) 29 [.code (sub (bodyOf Tryd.f11) [2, 2, 2, 1, 2, 2, 1]), .inLoop (sub (bodyOf Tryd.f11) [2, 2, 2, 1, 2, 2, 1]), .inBlock 0, .code (sub (bodyOf Tryd.f11) [2, 2, 2, 2])] [(0, vops_0), (4, .pointer (some ⟨gd_4, 0, none⟩)), (5, str last_5), (10, .int .i64 t_10), (11, .int .i64 t_11)] w := by
  intro n
  induction n with
  | zero => intro r ops_0 od_4 last_5 t_10 t_11 vops_0 gd_4 hS; cases hS
  | succ n ih =>
    have hr0 : ∀ {r : device_Devices × Str} {ops_0 : List law37_Op} {od_4 : device_Devices} {last_5 : Str} {t_10 : Int} {t_11 : Int} {vops_0 : Value} {gd_4 : Nat}, law37_run_L1 n ops_0 od_4 last_5 t_10 t_11 = some r → ∀ {ρ : Tags} {w : World}, (Fr (enter ρA o 2) w0 ρ w) → (SlR law37_Op.c (Wb ρ) w vops_0 ops_0) → (device_Devices.O (fun p => 100 + p) ρ w gd_4 od_4) → KE Tryd.prog 11 (Ret (fun v w' => ∃ ρ' gr0, v = .tuple #[.pointer (some ⟨gr0, 0, none⟩), str r.2] ∧ device_Devices.O (fun p => o + p) ρ' w' gr0 r.1 ∧ Tr ρA w0 (rng o 2) ρ' w')) 29 [.inLoop (sub (bodyOf Tryd.f11) [2, 2, 2, 1, 2, 2, 1]), .inBlock 0, .code (sub (bodyOf Tryd.f11) [2, 2, 2, 2])] [(0, vops_0), (4, .pointer (some ⟨gd_4, 0, none⟩)), (5, str last_5), (10, .int .i64 t_10), (11, .int .i64 t_11)] w := fun {r} {ops_0} {od_4} {last_5} {t_10} {t_11} {vops_0} {gd_4} hS {ρ} {w} hb hops_0 hod_4 => ke_inLoop (ih hS hb hops_0 hod_4)
    clear ih
    intro r ops_0 od_4 last_5 t_10 t_11 vops_0 gd_4 hS ρ w hb hops_0 hod_4
    unfold law37_run_L1 at hS
    obtain ⟨v13, hB15, h14⟩ := hod_4
    replace hB15 : Blk ρ 100 w gd_4 (.cells #[v13, .int .i64 od_4.given] 62 (0, 0)) := hB15
    replace h14 : MapT device_key.ek device_record.c true ρ 101 w v13 od_4.records := h14
    refine ke_seq ?_
    refine ke_region ?_
    refine sr_ev (v := .bool (decide (t_11 < t_10))) (ev_lt rfl rfl) (by decide) ?_
    refine sr_end (l' := [(0, vops_0), (4, .pointer (some ⟨gd_4, 0, none⟩)), (5, str last_5), (10, .int .i64 t_10), (11, .int .i64 t_11), (12, .bool (decide (t_11 < t_10)))]) (.cons rfl (.cons rfl (.cons rfl (.cons rfl (.cons rfl (.cons rfl (.nil _))))))) ?_
    refine ke_seq ?_
    refine ke_cond (t := decide (t_11 < t_10)) rfl (fun hc16 => ?_) (fun hc16 => ?_)
    · replace hS := ite_true' hS hc16
      refine ke_skip ?_
      refine ke_seq ?_
      refine ke_block ?_
      refine ke_seq ?_
      refine ke_region ?_
      refine sr_ev (v := .int .i64 t_11) (ev_move rfl) (by decide) ?_
      refine sr_ev (v := .int .i64 t_11) (ev_assign rfl) (by decide) ?_
      refine sr_end (l' := [(0, vops_0), (4, .pointer (some ⟨gd_4, 0, none⟩)), (5, str last_5), (6, .int .i64 t_11), (10, .int .i64 t_10), (11, .int .i64 t_11)]) (.cons rfl (.cons rfl (.cons rfl (.cons rfl (.cons rfl (.cons rfl (.nil _))))))) ?_
      refine ke_seq ?_
      refine ke_region ?_
      refine sr_ev (v := .pointer (some ⟨gd_4, 0, none⟩)) (ev_move rfl) (by decide) ?_
      refine sr_ev (v := vops_0) (ev_move rfl) (by decide) ?_
      refine sr_ev (v := .int .i64 t_11) (ev_move rfl) (by decide) ?_
      obtain ⟨y17, hy18, hS⟩ := bind_some' hS
      obtain ⟨b19, o20, cs22, hq23, he21⟩ := ((SlT.of_sl (i := 0) hops_0)).elem (P := Tryd.prog) Tryd.underlying22 Tryd.info39 rfl hy18
      obtain rfl : cs22 = [.int .i64 y17.Kind, str y17.User, str y17.ID, str y17.Secret, .int .i64 y17.Until, .int .i64 y17.Now] := he21.rd
      refine sr_ev (v := .pointer (some ⟨b19, o20, none⟩)) (hq23 w rfl rfl) (by decide) ?_
      refine sr_ev (v := .agg #[.int .i64 y17.Kind, str y17.User, str y17.ID, str y17.Secret, .int .i64 y17.Until, .int .i64 y17.Now]) (ev_loads (cs := [.int .i64 y17.Kind, str y17.User, str y17.ID, str y17.Secret, .int .i64 y17.Until, .int .i64 y17.Now]) Tryd.isAgg39 Tryd.sizeOf39 rfl he21.cell) (by decide) ?_
      refine sr_ev (v := str last_5) (ev_move rfl) (by decide) ?_
      obtain ⟨y24, hy25, hS⟩ := bind_some' hS
      refine sr_call (vs := [.pointer (some ⟨gd_4, 0, none⟩), .agg #[.int .i64 y17.Kind, str y17.User, str y17.ID, str y17.Secret, .int .i64 y17.Until, .int .i64 y17.Now], str last_5]) rfl Tryd.call21 rfl (law37_do_ok _ (hg.fr hz hb) (ρA := ρ) hb.bd (hz.fr hg hb) (o := 100) (by decide) (⟨_, hB15, h14⟩ : device_Devices.O (fun p => 100 + p) ρ w gd_4 od_4) hy25) (by decide) ?_
      rintro _ w26 ⟨ρ34, v29, rfl, h30, ⟨v31, hB33, h32⟩, htr28⟩
      replace hops_0 := hops_0.mv htr28.rd
      replace hb := hb.trans htr28
      replace hB33 : Blk ρ34 100 w26 gd_4 (.cells #[v31, .int .i64 y24.2.given] 62 (0, 0)) := hB33
      replace h32 : MapT device_key.ek device_record.c true ρ34 101 w26 v31 y24.2.records := h32
      refine sr_allocT 9 (by decide) hb.bd Tryd.zeroValue46 (by decide) ?_
      intro g35 ρ36 w37 hB39 htr38
      replace hops_0 := hops_0.mv htr38.rd
      replace h30 := h30.mv htr38.rd
      replace hB33 := hB33.mv (htr38.mv (i := 100) rfl)
      replace h32 := h32.mv (htr38.mv (i := 101) rfl)
      replace hb := hb.trans htr38
      replace hB39 : Blk ρ36 9 w37 g35 (.cells #[str ([]), (.slice none 0 0), .int .i64 0, .bool false, .int .i64 0] 46 (0, 0)) := hB39
      refine sr_storeT (v := .agg #[str y24.1.text, v29, .int .i64 y24.1.n, .bool y24.1.is_, .int .i64 y24.1.e]) (vs := [str y24.1.text, v29, .int .i64 y24.1.n, .bool y24.1.is_, .int .i64 y24.1.e]) (cs' := #[str y24.1.text, v29, .int .i64 y24.1.n, .bool y24.1.is_, .int .i64 y24.1.e]) hB39 (by decide) hb.bd rfl rfl rfl Tryd.sizeOf46 rfl (by first | rfl | (simp only [List.all_cons, List.all_nil, SlR.oneCell h30]; done) | (simp only [List.all_cons, List.all_nil, SlR.oneCell h30]; rfl)) rfl ?_
      intro w40 hB391 htr41
      replace hops_0 := hops_0.mv htr41.rd
      replace h30 := h30.mv htr41.rd
      replace hB33 := hB33.mv (htr41.mv (i := 100) rfl)
      replace h32 := h32.mv (htr41.mv (i := 101) rfl)
      replace hb := hb.trans htr41
      replace hB39 : Blk ρ36 9 w40 g35 (.cells #[str y24.1.text, v29, .int .i64 y24.1.n, .bool y24.1.is_, .int .i64 y24.1.e] 46 (0, 0)) := hB391
      clear hB391
      refine sr_end (l' := [(0, vops_0), (4, .pointer (some ⟨gd_4, 0, none⟩)), (5, str last_5), (7, .pointer (some ⟨g35, 0, none⟩)), (10, .int .i64 t_10), (11, .int .i64 t_11)]) (.cons rfl (.cons rfl (.cons rfl (.cons rfl (.cons rfl (.cons rfl (.nil _))))))) ?_
      refine ke_seq ?_
      refine ke_region ?_
      refine sr_ev (v := .pointer (some ⟨g35, 0, none⟩)) (ev_fieldAddr (i := 0) Tryd.underlying46 rfl Tryd.info9 rfl rfl) (by decide) ?_
      refine sr_ev (v := str y24.1.text) (ev_load Tryd.isAgg9 rfl (hB39.cell rfl)) (by decide) ?_
      refine sr_ev (v := .bool (!(y24.1.text == ([])))) (ev_sne rfl rfl) (by decide) ?_
      refine sr_end (l' := [(0, vops_0), (4, .pointer (some ⟨gd_4, 0, none⟩)), (5, str last_5), (7, .pointer (some ⟨g35, 0, none⟩)), (10, .int .i64 t_10), (11, .int .i64 t_11), (23, .bool (!(y24.1.text == ([]))))]) (.cons rfl (.cons rfl (.cons rfl (.cons rfl (.cons rfl (.cons rfl (.cons rfl (.nil _)))))))) ?_
      refine ke_cond (t := !(y24.1.text == ([]))) rfl (fun hc42 => ?_) (fun hc42 => ?_)
      · replace hS := ite_true' hS hc42
        refine ke_region ?_
        refine sr_ev (v := .pointer (some ⟨g35, 0, none⟩)) (ev_fieldAddr (i := 0) Tryd.underlying46 rfl Tryd.info9 rfl rfl) (by decide) ?_
        refine sr_ev (v := str y24.1.text) (ev_load Tryd.isAgg9 rfl (hB39.cell rfl)) (by decide) ?_
        refine sr_ev (v := str y24.1.text) (ev_assign rfl) (by decide) ?_
        refine sr_end (l' := [(0, vops_0), (4, .pointer (some ⟨gd_4, 0, none⟩)), (5, str y24.1.text), (10, .int .i64 t_10), (11, .int .i64 t_11)]) (.cons rfl (.cons rfl (.cons rfl (.cons rfl (.cons rfl (.nil _)))))) ?_
        have hK := law37_run_B2_ok hg hbd ho2 hz _ hr0 hS hb hops_0 ⟨_, hB33, h32⟩
        exact ke_weaken (l' := [(0, vops_0), (4, .pointer (some ⟨gd_4, 0, none⟩)), (5, str y24.1.text), (10, .int .i64 t_10), (11, .int .i64 t_11)]) (.cons rfl (.cons rfl (.cons rfl (.cons rfl (.cons rfl (.nil _)))))) hK
      · replace hS := ite_false' hS hc42
        refine ke_skip ?_
        have hK := law37_run_B2_ok hg hbd ho2 hz _ hr0 hS hb hops_0 ⟨_, hB33, h32⟩
        exact ke_weaken (l' := [(0, vops_0), (4, .pointer (some ⟨gd_4, 0, none⟩)), (5, str last_5), (10, .int .i64 t_10), (11, .int .i64 t_11)]) (.cons rfl (.cons rfl (.cons rfl (.cons rfl (.cons rfl (.nil _)))))) hK
    · replace hS := ite_false' hS hc16
      refine ke_exit (k' := _) rfl ?_
      refine ke_seq ?_
      refine ke_region ?_
      refine sr_ev (v := .pointer (some ⟨gd_4, 0, none⟩)) (ev_move rfl) (by decide) ?_
      refine sr_ev (v := str last_5) (ev_move rfl) (by decide) ?_
      refine sr_ev (v := .pointer (some ⟨gd_4, 0, none⟩)) (ev_assign rfl) (by decide) ?_
      refine sr_ev (v := str last_5) (ev_assign rfl) (by decide) ?_
      refine sr_end (l' := [(2, .pointer (some ⟨gd_4, 0, none⟩)), (3, str last_5)]) (.cons rfl (.cons rfl (.nil _))) ?_
      cases hS
      exact ke_ret2 Tryd.func11 rfl rfl rfl ⟨_, rfl, leave ρA w0 o 2 ρ, _, rfl, ⟨_, (hB15.mv (leave_mv (p := 0) (by decide) hb)), (h14.mv (leave_mv (p := 1) (by decide) hb))⟩, (leave_tr ho2 hb)⟩
theorem law37_run_ok (w0 : World) (hg : Gs w0) {ρA : Tags} (hbd : ∀ b, ρA b ≠ 0 → b < w0.heap.size) (hz : Gz ρA) {o : Nat} (ho2 : 2 ≤ o) {ops_0 : List law37_Op} {v1 : Value} {r : device_Devices × Str} (h2 : SlR law37_Op.c (Wb ρA) w0 v1 ops_0) (hS : law37_run ops_0 = some r) :
    Calls Tryd.prog 11 #[v1] w0 (Ret (fun v w' => ∃ ρ' gr0, v = .tuple #[.pointer (some ⟨gr0, 0, none⟩), str r.2] ∧ device_Devices.O (fun p => o + p) ρ' w' gr0 r.1 ∧ Tr ρA w0 (rng o 2) ρ' w')) := by
  unfold law37_run at hS
  have hb := enter_fr (ρ := ρA) (w := w0) (n := 2) ho2 hbd
  have hz := hz.enter (n := 2) ho2
  replace h2 := SlR.mv h2 (enter_rd (n := 2) ho2)
  refine calls_of_ke Tryd.func11 rfl (n := 29) rfl rfl (l := [(0, v1)]) rfl ?_
  refine ke_seq ?_
  refine ke_region ?_
  refine sr_ev (v := .pointer none) (ev_assign rfl) (by decide) ?_
  refine sr_ev (v := str ([])) (ev_assign rfl) (by decide) ?_
  refine sr_end (l' := [(0, v1)]) (.cons rfl (.nil _)) ?_
  refine ke_seq ?_
  refine ke_region ?_
  obtain ⟨y3, hy4, hS⟩ := bind_some' hS
  refine sr_call (vs := []) rfl Tryd.call16 rfl (device_New_ok _ (hg.fr hz hb) (ρA := (enter ρA o 2)) hb.bd (hz.fr hg hb) (o := 100) (by decide) hy4) (by decide) ?_
  rintro _ w5 ⟨ρ12, g8, rfl, ⟨v9, hB11, h10⟩, htr7⟩
  replace h2 := h2.mv htr7.rd
  replace hb := hb.trans htr7
  replace hB11 : Blk ρ12 100 w5 g8 (.cells #[v9, .int .i64 y3.given] 62 (0, 0)) := hB11
  replace h10 : MapT device_key.ek device_record.c true ρ12 101 w5 v9 y3.records := h10
  refine sr_ev (v := .pointer (some ⟨g8, 0, none⟩)) (ev_assign rfl) (by decide) ?_
  refine sr_end (l' := [(0, v1), (4, .pointer (some ⟨g8, 0, none⟩))]) (.cons rfl (.cons rfl (.nil _))) ?_
  refine ke_seq ?_
  refine ke_region ?_
  refine sr_ev (v := str ([])) (ev_assign rfl) (by decide) ?_
  refine sr_end (l' := [(0, v1), (4, .pointer (some ⟨g8, 0, none⟩)), (5, str ([]))]) (.cons rfl (.cons rfl (.cons rfl (.nil _)))) ?_
  refine ke_seq ?_
  refine ke_seq ?_
  refine ke_region ?_
  refine sr_ev (v := v1) (ev_move rfl) (by decide) ?_
  refine sr_ev (v := .int .i64 (ops_0.length : Int)) (ev_sllen Tryd.underlying22 rfl h2.asSl) (by decide) ?_
  refine sr_ev (v := .int .i64 0) (ev_move rfl) (by decide) ?_
  refine sr_end (l' := [(0, v1), (4, .pointer (some ⟨g8, 0, none⟩)), (5, str ([])), (10, .int .i64 (ops_0.length : Int)), (11, .int .i64 0)]) (.cons rfl (.cons rfl (.cons rfl (.cons rfl (.cons rfl (.nil _)))))) ?_
  refine ke_block ?_
  have hK := law37_run_L1_ok hg hbd ho2 hz _ hS hb h2 ⟨_, hB11, h10⟩
  exact ke_weaken (l' := [(0, v1), (4, .pointer (some ⟨g8, 0, none⟩)), (5, str ([])), (10, .int .i64 (ops_0.length : Int)), (11, .int .i64 0)]) (.cons rfl (.cons rfl (.cons rfl (.cons rfl (.cons rfl (.nil _)))))) (ke_loop hK)
theorem law37_DeviceOnce_B1_ok {w0 : World} (hg : Gs w0) {ρA : Tags} (hbd : ∀ b, ρA b ≠ 0 → b < w0.heap.size) (hz : Gz (flat1 ρA)) {r : Bool} {user_1 : Str} {id_2 : Str} {secret_3 : Str} {again_5 : Str} {now_6 : Int} {od_15 : device_Devices} {c_17 : Str} {answer_19 : Str} {gd_15 : Nat} (hS : law37_DeviceOnce_B1 user_1 id_2 secret_3 again_5 now_6 od_15 c_17 answer_19 = some r) {ρ : Tags} {w : World} (hb : Fr (flat1 ρA) w0 ρ w) (hod_15 : device_Devices.O (fun p => 100 + p) ρ w gd_15 od_15) :
    KE Tryd.prog 3 (Ret (fun v w' => v = .bool r ∧ Below w0.heap.size w0 w')) 95 [.code (sub (bodyOf Tryd.f3) [2, 2, 2, 2, 2, 2, 2, 2])] [(1, str user_1), (2, str id_2), (3, str secret_3), (5, str again_5), (6, .int .i64 now_6), (15, .pointer (some ⟨gd_15, 0, none⟩)), (17, str c_17), (19, str answer_19)] w := by
  unfold law37_DeviceOnce_B1 at hS
  obtain ⟨v72, hB74, h73⟩ := hod_15
  replace hB74 : Blk ρ 100 w gd_15 (.cells #[v72, .int .i64 od_15.given] 62 (0, 0)) := hB74
  replace h73 : MapT device_key.ek device_record.c true ρ 101 w v72 od_15.records := h73
  refine ke_seq ?_
  refine ke_region ?_
  refine sr_ev (v := .pointer (some ⟨gd_15, 0, none⟩)) (ev_move rfl) (by decide) ?_
  refine sr_ev (v := str user_1) (ev_move rfl) (by decide) ?_
  refine sr_ev (v := str id_2) (ev_move rfl) (by decide) ?_
  refine sr_ev (v := str answer_19) (ev_move rfl) (by decide) ?_
  refine sr_ev (v := .int .i64 now_6) (ev_move rfl) (by decide) ?_
  obtain ⟨y75, hy76, hS⟩ := bind_some' hS
  refine sr_call (vs := [.pointer (some ⟨gd_15, 0, none⟩), str user_1, str id_2, str answer_19, .int .i64 now_6]) rfl Tryd.call15 rfl (device_Devices_Prove_ok _ (hg.fr hz hb) (ρA := ρ) hb.bd (hz.fr hg hb) (o := 100) (by decide) (⟨_, hB74, h73⟩ : device_Devices.O (fun p => 100 + p) ρ w gd_15 od_15) hy76) (by decide) ?_
  rintro _ w77 ⟨ρ83, rfl, ⟨v80, hB82, h81⟩, htr79⟩
  replace hb := hb.trans htr79
  replace hB82 : Blk ρ83 100 w77 gd_15 (.cells #[v80, .int .i64 y75.2.given] 62 (0, 0)) := hB82
  replace h81 : MapT device_key.ek device_record.c true ρ83 101 w77 v80 y75.2.records := h81
  refine sr_ev (v := .int .i64 y75.1) (ev_assign rfl) (by decide) ?_
  refine sr_end (l' := [(1, str user_1), (2, str id_2), (3, str secret_3), (5, str again_5), (6, .int .i64 now_6), (15, .pointer (some ⟨gd_15, 0, none⟩)), (17, str c_17), (20, .int .i64 y75.1)]) (.cons rfl (.cons rfl (.cons rfl (.cons rfl (.cons rfl (.cons rfl (.cons rfl (.cons rfl (.nil _))))))))) ?_
  refine ke_seq ?_
  refine ke_seq ?_
  refine ke_region ?_
  refine sr_ev (v := .int .i64 y75.1) (ev_move rfl) (by decide) ?_
  refine sr_ev (v := .bool (y75.1 != 0)) (ev_ne rfl rfl) (by decide) ?_
  refine sr_ev (v := .bool (y75.1 != 0)) (ev_move rfl) (by decide) ?_
  refine sr_join (m := 3) (C := fun (x : Bool) w1 => x = ((y75.1 != 0) && (y75.1 != 11)) ∧ w77 = w1) (l' := fun x => [(1, str user_1), (2, str id_2), (3, str secret_3), (5, str again_5), (6, .int .i64 now_6), (15, .pointer (some ⟨gd_15, 0, none⟩)), (17, str c_17), (76, .bool x)]) ?_ ?_
  · rintro _ _ ⟨rfl, rfl⟩
    refine sr_end (l' := [(1, str user_1), (2, str id_2), (3, str secret_3), (5, str again_5), (6, .int .i64 now_6), (15, .pointer (some ⟨gd_15, 0, none⟩)), (17, str c_17), (76, .bool ((y75.1 != 0) && (y75.1 != 11)))]) (.cons rfl (.cons rfl (.cons rfl (.cons rfl (.cons rfl (.cons rfl (.cons rfl (.cons rfl (.nil _))))))))) ?_
    refine ke_cond (t := (y75.1 != 0) && (y75.1 != 11)) rfl (fun hc92 => ?_) (fun hc92 => ?_)
    · replace hS := ite_true' hS hc92
      refine ke_seq ?_
      refine ke_region ?_
      refine sr_ev (v := .bool false) (ev_assign rfl) (by decide) ?_
      refine sr_end (l' := [(14, .bool false)]) (.cons rfl (.nil _)) ?_
      cases hS
      exact ke_ret1 Tryd.func3 rfl rfl ⟨_, rfl, rfl, (hb.below (flat1_le _))⟩
    · replace hS := ite_false' hS hc92
      refine ke_skip ?_
      refine ke_seq ?_
      refine ke_region ?_
      refine sr_ev (v := .pointer (some ⟨gd_15, 0, none⟩)) (ev_move rfl) (by decide) ?_
      refine sr_ev (v := str user_1) (ev_move rfl) (by decide) ?_
      refine sr_ev (v := str id_2) (ev_move rfl) (by decide) ?_
      refine sr_ev (v := str secret_3) (ev_move rfl) (by decide) ?_
      refine sr_ev (v := str c_17) (ev_move rfl) (by decide) ?_
      obtain ⟨y93, hy94, hS⟩ := bind_some' hS
      refine sr_call (vs := [str secret_3, str c_17]) rfl Tryd.call14 rfl (device_Answer_ok _ (hg.fr hz hb) hy94) (by decide) ?_
      rintro _ w95 ⟨rfl, hbw96⟩
      have htr97 := Tr.of_below hbw96 hb.bd
      replace hB82 := hB82.mv (htr97.mv (i := 100) rfl)
      replace h81 := h81.mv (htr97.mv (i := 101) rfl)
      replace hb := hb.trans htr97
      refine sr_ev (v := .int .i64 now_6) (ev_move rfl) (by decide) ?_
      obtain ⟨y98, hy99, hS⟩ := bind_some' hS
      refine sr_call (vs := [.pointer (some ⟨gd_15, 0, none⟩), str user_1, str id_2, str y93, .int .i64 now_6]) rfl Tryd.call15 rfl (device_Devices_Prove_ok _ (hg.fr hz hb) (ρA := ρ83) hb.bd (hz.fr hg hb) (o := 100) (by decide) (⟨_, hB82, h81⟩ : device_Devices.O (fun p => 100 + p) ρ83 w95 gd_15 y75.2) hy99) (by decide) ?_
      rintro _ w100 ⟨ρ106, rfl, ⟨v103, hB105, h104⟩, htr102⟩
      replace hb := hb.trans htr102
      replace hB105 : Blk ρ106 100 w100 gd_15 (.cells #[v103, .int .i64 y98.2.given] 62 (0, 0)) := hB105
      replace h104 : MapT device_key.ek device_record.c true ρ106 101 w100 v103 y98.2.records := h104
      refine sr_ev (v := .bool (y98.1 == 12)) (ev_eq rfl rfl) (by decide) ?_
      refine sr_ev (v := .bool (y98.1 == 12)) (ev_move rfl) (by decide) ?_
      obtain ⟨z109, hz111, hS⟩ := bind_some' hS
      refine sr_join (m := 8) (C := fun (z : Bool × device_Devices) w1 => z109 = z ∧ ∃ ρ1, device_Devices.O (fun p => 100 + p) ρ1 w1 gd_15 z.2 ∧ Tr ρ106 w100 (fun t => ([100, 101] : List Nat).contains t) ρ1 w1) (l' := fun z => [(94, .bool z.1)]) ?_ ?_
      · rintro _ w112 ⟨rfl, ρ113, ⟨v124, hB126, h125⟩, hj110⟩
        replace hb := hb.trans hj110
        replace hB126 : Blk ρ113 100 w112 gd_15 (.cells #[v124, .int .i64 z109.2.given] 62 (0, 0)) := hB126
        replace h125 : MapT device_key.ek device_record.c true ρ113 101 w112 v124 z109.2.records := h125
        refine sr_ev (v := .bool z109.1) (ev_assign rfl) (by decide) ?_
        refine sr_end (l' := [(14, .bool z109.1)]) (.cons rfl (.nil _)) ?_
        cases hS
        exact ke_ret1 Tryd.func3 rfl rfl ⟨_, rfl, rfl, (hb.below (flat1_le _))⟩
      · intro K108
        clear hS
        have hj110 : Tr ρ106 w100 (fun t => ([100, 101] : List Nat).contains t) ρ106 w100 := (Tr.refl hb.bd).weak (fun _ _ => rfl) rfl rfl
        rcases Bool.eq_false_or_eq_true (y98.1 == 12) with hg107 | hg107
        · have hS := ite_true' hz111 hg107
          refine sr_evg (b := true) (e := 86) rfl rfl hg107 (v := .pointer (some ⟨gd_15, 0, none⟩)) (ev_move rfl) (by decide) ?_
          refine sr_evg (b := true) (e := 86) rfl rfl hg107 (v := str user_1) (ev_move rfl) (by decide) ?_
          refine sr_evg (b := true) (e := 86) rfl rfl hg107 (v := str id_2) (ev_move rfl) (by decide) ?_
          refine sr_evg (b := true) (e := 86) rfl rfl hg107 (v := str again_5) (ev_move rfl) (by decide) ?_
          refine sr_evg (b := true) (e := 86) rfl rfl hg107 (v := .int .i64 now_6) (ev_move rfl) (by decide) ?_
          obtain ⟨y115, hy116, hS⟩ := bind_some' hS
          refine sr_callg (b := true) (e := 86) rfl rfl hg107 (vs := [.pointer (some ⟨gd_15, 0, none⟩), str user_1, str id_2, str again_5, .int .i64 now_6]) rfl Tryd.call15 rfl (device_Devices_Prove_ok _ (hg.fr hz hb) (ρA := ρ106) hb.bd (hz.fr hg hb) (o := 100) (by decide) (⟨_, hB105, h104⟩ : device_Devices.O (fun p => 100 + p) ρ106 w100 gd_15 y98.2) hy116) (by decide) ?_
          rintro _ w117 ⟨ρ123, rfl, ⟨v120, hB122, h121⟩, htr119⟩
          replace hb := hb.trans htr119
          replace hj110 := (hj110.trans htr119).weak (J' := (fun t => ([100, 101] : List Nat).contains t)) (by intro t h; simp [rng] at h ⊢ <;> omega) rfl rfl
          replace hB122 : Blk ρ123 100 w117 gd_15 (.cells #[v120, .int .i64 y115.2.given] 62 (0, 0)) := hB122
          replace h121 : MapT device_key.ek device_record.c true ρ123 101 w117 v120 y115.2.records := h121
          refine sr_evg (b := true) (e := 86) rfl rfl hg107 (v := .bool (y115.1 == 12)) (ev_eq rfl rfl) (by decide) ?_
          refine sr_ev (v := .bool (y115.1 == 12)) (ev_pick_t rfl hg107 rfl) (by decide) ?_
          exact sr_weaken (l' := [(94, .bool (y115.1 == 12))]) (.cons rfl (.nil _)) (K108 (y115.1 == 12, y115.2) _ ⟨(Option.some.inj hS).symm, _, ⟨_, hB122, h121⟩, hj110⟩)
        · have hS := ite_false' hz111 hg107
          refine sr_pass (e := 86) rfl rfl (by rw [hg107]; rfl) (by decide) ?_
          refine sr_pass (e := 86) rfl rfl (by rw [hg107]; rfl) (by decide) ?_
          refine sr_pass (e := 86) rfl rfl (by rw [hg107]; rfl) (by decide) ?_
          refine sr_pass (e := 86) rfl rfl (by rw [hg107]; rfl) (by decide) ?_
          refine sr_pass (e := 86) rfl rfl (by rw [hg107]; rfl) (by decide) ?_
          refine sr_pass (e := 86) rfl rfl (by rw [hg107]; rfl) (by decide) ?_
          refine sr_pass (e := 86) rfl rfl (by rw [hg107]; rfl) (by decide) ?_
          refine sr_ev (v := .bool false) (ev_pick_f rfl hg107 rfl) (by decide) ?_
          exact sr_weaken (l' := [(94, .bool false)]) (.cons rfl (.nil _)) (K108 (false, y98.2) _ ⟨(Option.some.inj hS).symm, _, ⟨_, hB105, h104⟩, hj110⟩)
  · intro K85
    rcases Bool.eq_false_or_eq_true (y75.1 != 0) with hg84 | hg84
    all_goals try have hj87 : Tr ρ83 w77 (fun _ => false) ρ83 w77 := Tr.refl hb.bd
    · refine sr_evg (b := true) (e := 73) rfl rfl hg84 (v := .int .i64 y75.1) (ev_move rfl) (by decide) ?_
      refine sr_evg (b := true) (e := 73) rfl rfl hg84 (v := .bool (y75.1 != 11)) (ev_ne rfl rfl) (by decide) ?_
      refine sr_ev (v := .bool (y75.1 != 11)) (ev_pick_t rfl hg84 rfl) (by decide) ?_
      exact sr_weaken (l' := [(1, str user_1), (2, str id_2), (3, str secret_3), (5, str again_5), (6, .int .i64 now_6), (15, .pointer (some ⟨gd_15, 0, none⟩)), (17, str c_17), (76, .bool (y75.1 != 11))]) (.cons rfl (.cons rfl (.cons rfl (.cons rfl (.cons rfl (.cons rfl (.cons rfl (.cons rfl (.nil _))))))))) (K85 (y75.1 != 11) _ ⟨by rw [hg84]; rfl, rfl⟩)
    · refine sr_pass (e := 73) rfl rfl (by rw [hg84]; rfl) (by decide) ?_
      refine sr_pass (e := 73) rfl rfl (by rw [hg84]; rfl) (by decide) ?_
      refine sr_ev (v := .bool false) (ev_pick_f rfl hg84 rfl) (by decide) ?_
      exact sr_weaken (l' := [(1, str user_1), (2, str id_2), (3, str secret_3), (5, str again_5), (6, .int .i64 now_6), (15, .pointer (some ⟨gd_15, 0, none⟩)), (17, str c_17), (76, .bool false)]) (.cons rfl (.cons rfl (.cons rfl (.cons rfl (.cons rfl (.cons rfl (.cons rfl (.cons rfl (.nil _))))))))) (K85 false _ ⟨by rw [hg84]; rfl, rfl⟩)
theorem law37_DeviceOnce_ok (w0 : World) (hg : Gs w0) {ρA : Tags} (hbd : ∀ b, ρA b ≠ 0 → b < w0.heap.size) (hz : Gz ρA) {ops_0 : List law37_Op} {user_1 : Str} {id_2 : Str} {secret_3 : Str} {wrong_4 : Str} {again_5 : Str} {now_6 : Int} {v1 : Value} {r : Bool} (h2 : SlR law37_Op.c (Wb ρA) w0 v1 ops_0) (hS : law37_DeviceOnce ops_0 user_1 id_2 secret_3 wrong_4 again_5 now_6 = some r) :
    Calls Tryd.prog 3 #[v1, str user_1, str id_2, str secret_3, str wrong_4, str again_5, .int .i64 now_6] w0 (Ret (fun v w' => v = .bool r ∧ Below w0.heap.size w0 w')) := by
  unfold law37_DeviceOnce at hS
  have hb := flat1_fr (ρ := ρA) (w := w0) hbd
  have hz := hz.flat1
  replace h2 := SlR.mv h2 flat1_rd
  refine calls_of_ke Tryd.func3 rfl (n := 95) rfl rfl (l := [(0, v1), (1, str user_1), (2, str id_2), (3, str secret_3), (4, str wrong_4), (5, str again_5), (6, .int .i64 now_6)]) rfl ?_
  refine ke_seq ?_
  refine ke_region ?_
  refine sr_ev (v := .bool false) (ev_assign rfl) (by decide) ?_
  refine sr_end (l' := [(0, v1), (1, str user_1), (2, str id_2), (3, str secret_3), (4, str wrong_4), (5, str again_5), (6, .int .i64 now_6)]) (.cons rfl (.cons rfl (.cons rfl (.cons rfl (.cons rfl (.cons rfl (.cons rfl (.nil _)))))))) ?_
  refine ke_seq ?_
  refine ke_seq ?_
  refine ke_region ?_
  obtain ⟨y3, hy4, hS⟩ := bind_some' hS
  refine sr_call (vs := []) rfl Tryd.call8 rfl (law37_live_ok _ (hg.fr hz hb) (ρA := (flat1 ρA)) hb.bd (hz.fr hg hb) hy4) (by decide) ?_
  rintro _ w5 ⟨rfl, hbw6⟩
  have htr7 := Tr.of_below hbw6 hb.bd
  replace h2 := h2.mv htr7.rd
  replace hb := hb.trans htr7
  refine sr_ev (v := .bool (!y3)) (ev_not rfl) (by decide) ?_
  refine sr_end (l' := [(0, v1), (1, str user_1), (2, str id_2), (3, str secret_3), (4, str wrong_4), (5, str again_5), (6, .int .i64 now_6), (22, .bool (!y3))]) (.cons rfl (.cons rfl (.cons rfl (.cons rfl (.cons rfl (.cons rfl (.cons rfl (.cons rfl (.nil _))))))))) ?_
  refine ke_cond (t := !y3) rfl (fun hc8 => ?_) (fun hc8 => ?_)
  · replace hS := ite_true' hS hc8
    refine ke_seq ?_
    refine ke_region ?_
    refine sr_ev (v := .bool false) (ev_assign rfl) (by decide) ?_
    refine sr_end (l' := [(14, .bool false)]) (.cons rfl (.nil _)) ?_
    cases hS
    exact ke_ret1 Tryd.func3 rfl rfl ⟨_, rfl, rfl, (hb.below (flat1_le _))⟩
  · replace hS := ite_false' hS hc8
    refine ke_skip ?_
    refine ke_seq ?_
    refine ke_seq ?_
    refine ke_region ?_
    refine sr_ev (v := v1) (ev_move rfl) (by decide) ?_
    obtain ⟨y9, hy10, hS⟩ := bind_some' hS
    refine sr_call (vs := [v1, .int .i64 20]) rfl Tryd.call9 rfl (law37_long_ok _ (hg.fr hz hb) (ρA := (flat1 ρA)) hb.bd (hz.fr hg hb) h2 hy10) (by decide) ?_
    rintro _ w11 ⟨rfl, hbw12⟩
    have htr13 := Tr.of_below hbw12 hb.bd
    replace h2 := h2.mv htr13.rd
    replace hb := hb.trans htr13
    refine sr_ev (v := .bool y9) (ev_move rfl) (by decide) ?_
    obtain ⟨z16, hz18, hS⟩ := bind_some' hS
    refine sr_join (m := 8) (C := fun (z : Bool) w1 => z16 = z ∧ ∃ ρ1, Tr (flat1 ρA) w11 (fun _ => false) ρ1 w1) (l' := fun z => [(0, v1), (1, str user_1), (2, str id_2), (3, str secret_3), (4, str wrong_4), (5, str again_5), (6, .int .i64 now_6), (33, .bool z)]) ?_ ?_
    · rintro _ w19 ⟨rfl, ρ20, hj17⟩
      replace h2 := h2.mv hj17.rd
      replace hb := hb.trans hj17
      refine sr_end (l' := [(0, v1), (1, str user_1), (2, str id_2), (3, str secret_3), (4, str wrong_4), (5, str again_5), (6, .int .i64 now_6), (33, .bool z16)]) (.cons rfl (.cons rfl (.cons rfl (.cons rfl (.cons rfl (.cons rfl (.cons rfl (.cons rfl (.nil _))))))))) ?_
      refine ke_cond (t := z16) rfl (fun hc32 => ?_) (fun hc32 => ?_)
      · replace hS := ite_true' hS hc32
        refine ke_seq ?_
        refine ke_region ?_
        refine sr_ev (v := .bool true) (ev_assign rfl) (by decide) ?_
        refine sr_end (l' := [(14, .bool true)]) (.cons rfl (.nil _)) ?_
        cases hS
        exact ke_ret1 Tryd.func3 rfl rfl ⟨_, rfl, rfl, (hb.below (flat1_le _))⟩
      · replace hS := ite_false' hS hc32
        refine ke_skip ?_
        refine ke_seq ?_
        refine ke_region ?_
        refine sr_ev (v := v1) (ev_move rfl) (by decide) ?_
        obtain ⟨y33, hy34, hS⟩ := bind_some' hS
        refine sr_call (vs := [v1]) rfl Tryd.call11 rfl (law37_run_ok _ (hg.fr hz hb) (ρA := ρ20) hb.bd (hz.fr hg hb) (o := 100) (by decide) h2 hy34) (by decide) ?_
        rintro _ w35 ⟨ρ42, g38, rfl, ⟨v39, hB41, h40⟩, htr37⟩
        replace hb := hb.trans htr37
        replace hB41 : Blk ρ42 100 w35 g38 (.cells #[v39, .int .i64 y33.1.given] 62 (0, 0)) := hB41
        replace h40 : MapT device_key.ek device_record.c true ρ42 101 w35 v39 y33.1.records := h40
        refine sr_ev (v := .tuple #[.pointer (some ⟨g38, 0, none⟩), str y33.2]) (ev_move rfl) (by decide) ?_
        refine sr_ev (v := .pointer (some ⟨g38, 0, none⟩)) (ev_extract rfl rfl) (by decide) ?_
        refine sr_ev (v := str y33.2) (ev_extract rfl rfl) (by decide) ?_
        refine sr_ev (v := .pointer (some ⟨g38, 0, none⟩)) (ev_assign rfl) (by decide) ?_
        refine sr_ev (v := str y33.2) (ev_assign rfl) (by decide) ?_
        refine sr_end (l' := [(1, str user_1), (2, str id_2), (3, str secret_3), (4, str wrong_4), (5, str again_5), (6, .int .i64 now_6), (15, .pointer (some ⟨g38, 0, none⟩))]) (.cons rfl (.cons rfl (.cons rfl (.cons rfl (.cons rfl (.cons rfl (.cons rfl (.nil _)))))))) ?_
        refine ke_seq ?_
        refine ke_region ?_
        refine sr_ev (v := .pointer (some ⟨g38, 0, none⟩)) (ev_move rfl) (by decide) ?_
        refine sr_ev (v := str user_1) (ev_move rfl) (by decide) ?_
        refine sr_ev (v := str id_2) (ev_move rfl) (by decide) ?_
        refine sr_ev (v := .int .i64 now_6) (ev_move rfl) (by decide) ?_
        obtain ⟨y43, hy44, hS⟩ := bind_some' hS
        refine sr_call (vs := [.pointer (some ⟨g38, 0, none⟩), str user_1, str id_2, .int .i64 now_6]) rfl Tryd.call12 rfl (device_Devices_Challenge_ok _ (hg.fr hz hb) (ρA := ρ42) hb.bd (hz.fr hg hb) (o := 100) (by decide) (⟨_, hB41, h40⟩ : device_Devices.O (fun p => 100 + p) ρ42 w35 g38 y33.1) hy44) (by decide) ?_
        rintro _ w45 ⟨ρ51, rfl, ⟨v48, hB50, h49⟩, htr47⟩
        replace hb := hb.trans htr47
        replace hB50 : Blk ρ51 100 w45 g38 (.cells #[v48, .int .i64 y43.2.2.given] 62 (0, 0)) := hB50
        replace h49 : MapT device_key.ek device_record.c true ρ51 101 w45 v48 y43.2.2.records := h49
        refine sr_ev (v := .tuple #[str y43.1, .int .i64 y43.2.1]) (ev_move rfl) (by decide) ?_
        refine sr_ev (v := str y43.1) (ev_extract rfl rfl) (by decide) ?_
        refine sr_ev (v := .int .i64 y43.2.1) (ev_extract rfl rfl) (by decide) ?_
        refine sr_ev (v := str y43.1) (ev_assign rfl) (by decide) ?_
        refine sr_ev (v := .int .i64 y43.2.1) (ev_assign rfl) (by decide) ?_
        refine sr_end (l' := [(1, str user_1), (2, str id_2), (3, str secret_3), (4, str wrong_4), (5, str again_5), (6, .int .i64 now_6), (15, .pointer (some ⟨g38, 0, none⟩)), (17, str y43.1), (18, .int .i64 y43.2.1)]) (.cons rfl (.cons rfl (.cons rfl (.cons rfl (.cons rfl (.cons rfl (.cons rfl (.cons rfl (.cons rfl (.nil _)))))))))) ?_
        refine ke_seq ?_
        refine ke_seq ?_
        refine ke_region ?_
        refine sr_ev (v := .int .i64 y43.2.1) (ev_move rfl) (by decide) ?_
        refine sr_ev (v := .bool (y43.2.1 != 0)) (ev_ne rfl rfl) (by decide) ?_
        refine sr_end (l' := [(1, str user_1), (2, str id_2), (3, str secret_3), (4, str wrong_4), (5, str again_5), (6, .int .i64 now_6), (15, .pointer (some ⟨g38, 0, none⟩)), (17, str y43.1), (48, .bool (y43.2.1 != 0))]) (.cons rfl (.cons rfl (.cons rfl (.cons rfl (.cons rfl (.cons rfl (.cons rfl (.cons rfl (.cons rfl (.nil _)))))))))) ?_
        refine ke_cond (t := y43.2.1 != 0) rfl (fun hc52 => ?_) (fun hc52 => ?_)
        · replace hS := ite_true' hS hc52
          refine ke_seq ?_
          refine ke_region ?_
          refine sr_ev (v := str y43.1) (ev_move rfl) (by decide) ?_
          refine sr_ev (v := .bool (y43.1 == ([]))) (ev_seq rfl rfl) (by decide) ?_
          refine sr_ev (v := .bool (y43.1 == ([]))) (ev_move rfl) (by decide) ?_
          obtain ⟨z55, hz57, hS⟩ := bind_some' hS
          refine sr_join (m := 7) (C := fun (z : Bool) w1 => z55 = z ∧ ∃ ρ1, Tr ρ51 w45 (fun _ => false) ρ1 w1) (l' := fun z => [(58, .bool z)]) ?_ ?_
          · rintro _ w58 ⟨rfl, ρ59, hj56⟩
            replace hb := hb.trans hj56
            refine sr_ev (v := .bool z55) (ev_assign rfl) (by decide) ?_
            refine sr_end (l' := [(14, .bool z55)]) (.cons rfl (.nil _)) ?_
            cases hS
            exact ke_ret1 Tryd.func3 rfl rfl ⟨_, rfl, rfl, (hb.below (flat1_le _))⟩
          · intro K54
            clear hS
            have hj56 : Tr ρ51 w45 (fun _ => false) ρ51 w45 := (Tr.refl hb.bd).weak (fun _ _ => rfl) rfl rfl
            rcases Bool.eq_false_or_eq_true (y43.1 == ([])) with hg53 | hg53
            · have hS := ite_true' hz57 hg53
              refine sr_evg (b := true) (e := 51) rfl rfl hg53 (v := .pointer (some ⟨g38, 0, none⟩)) (ev_move rfl) (by decide) ?_
              refine sr_evg (b := true) (e := 51) rfl rfl hg53 (v := str user_1) (ev_move rfl) (by decide) ?_
              refine sr_evg (b := true) (e := 51) rfl rfl hg53 (v := str id_2) (ev_move rfl) (by decide) ?_
              refine sr_evg (b := true) (e := 51) rfl rfl hg53 (v := .int .i64 now_6) (ev_move rfl) (by decide) ?_
              obtain ⟨y61, hy62, hS⟩ := bind_some' hS
              refine sr_callg (b := true) (e := 51) rfl rfl hg53 (vs := [.pointer (some ⟨g38, 0, none⟩), str user_1, str id_2, .int .i64 now_6]) rfl Tryd.call13 rfl (device_Devices_Trusted_ok _ (hg.fr hz hb) (ρA := ρ51) hb.bd (hz.fr hg hb) (τ0 := (fun p => 100 + p)) (fun p => Nat.le_add_right_of_le (by decide)) (⟨_, hB50, h49⟩ : device_Devices.O (fun p => 100 + p) ρ51 w45 g38 y43.2.2) hy62) (by decide) ?_
              rintro _ w63 ⟨rfl, hbw64⟩
              have htr65 := Tr.of_below hbw64 hb.bd
              replace hb := hb.trans htr65
              replace hj56 := (hj56.trans htr65).weak (J' := (fun _ => false)) (by intro t h; simp [rng] at h ⊢ <;> omega) rfl rfl
              refine sr_evg (b := true) (e := 51) rfl rfl hg53 (v := .bool (!y61)) (ev_not rfl) (by decide) ?_
              refine sr_ev (v := .bool (!y61)) (ev_pick_t rfl hg53 rfl) (by decide) ?_
              exact sr_weaken (l' := [(58, .bool (!y61))]) (.cons rfl (.nil _)) (K54 (!y61) _ ⟨(Option.some.inj hS).symm, _, hj56⟩)
            · have hS := ite_false' hz57 hg53
              refine sr_pass (e := 51) rfl rfl (by rw [hg53]; rfl) (by decide) ?_
              refine sr_pass (e := 51) rfl rfl (by rw [hg53]; rfl) (by decide) ?_
              refine sr_pass (e := 51) rfl rfl (by rw [hg53]; rfl) (by decide) ?_
              refine sr_pass (e := 51) rfl rfl (by rw [hg53]; rfl) (by decide) ?_
              refine sr_pass (e := 51) rfl rfl (by rw [hg53]; rfl) (by decide) ?_
              refine sr_pass (e := 51) rfl rfl (by rw [hg53]; rfl) (by decide) ?_
              refine sr_ev (v := .bool false) (ev_pick_f rfl hg53 rfl) (by decide) ?_
              exact sr_weaken (l' := [(58, .bool false)]) (.cons rfl (.nil _)) (K54 false _ ⟨(Option.some.inj hS).symm, _, hj56⟩)
        · replace hS := ite_false' hS hc52
          refine ke_skip ?_
          refine ke_seq ?_
          refine ke_region ?_
          refine sr_ev (v := str wrong_4) (ev_move rfl) (by decide) ?_
          refine sr_ev (v := str wrong_4) (ev_assign rfl) (by decide) ?_
          refine sr_end (l' := [(1, str user_1), (2, str id_2), (3, str secret_3), (5, str again_5), (6, .int .i64 now_6), (15, .pointer (some ⟨g38, 0, none⟩)), (17, str y43.1), (19, str wrong_4)]) (.cons rfl (.cons rfl (.cons rfl (.cons rfl (.cons rfl (.cons rfl (.cons rfl (.cons rfl (.nil _))))))))) ?_
          refine ke_seq ?_
          refine ke_seq ?_
          refine ke_region ?_
          refine sr_ev (v := str again_5) (ev_move rfl) (by decide) ?_
          refine sr_ev (v := .bool (again_5 == ([]))) (ev_seq rfl rfl) (by decide) ?_
          refine sr_end (l' := [(1, str user_1), (2, str id_2), (3, str secret_3), (5, str again_5), (6, .int .i64 now_6), (15, .pointer (some ⟨g38, 0, none⟩)), (17, str y43.1), (19, str wrong_4), (61, .bool (again_5 == ([])))]) (.cons rfl (.cons rfl (.cons rfl (.cons rfl (.cons rfl (.cons rfl (.cons rfl (.cons rfl (.cons rfl (.nil _)))))))))) ?_
          refine ke_cond (t := again_5 == ([])) rfl (fun hc66 => ?_) (fun hc66 => ?_)
          · replace hS := ite_true' hS hc66
            refine ke_region ?_
            refine sr_ev (v := str secret_3) (ev_move rfl) (by decide) ?_
            refine sr_ev (v := str y43.1) (ev_move rfl) (by decide) ?_
            obtain ⟨y67, hy68, hS⟩ := bind_some' hS
            refine sr_call (vs := [str secret_3, str y43.1]) rfl Tryd.call14 rfl (device_Answer_ok _ (hg.fr hz hb) hy68) (by decide) ?_
            rintro _ w69 ⟨rfl, hbw70⟩
            have htr71 := Tr.of_below hbw70 hb.bd
            replace hB50 := hB50.mv (htr71.mv (i := 100) rfl)
            replace h49 := h49.mv (htr71.mv (i := 101) rfl)
            replace hb := hb.trans htr71
            refine sr_ev (v := str y67) (ev_assign rfl) (by decide) ?_
            refine sr_end (l' := [(1, str user_1), (2, str id_2), (3, str secret_3), (5, str again_5), (6, .int .i64 now_6), (15, .pointer (some ⟨g38, 0, none⟩)), (17, str y43.1), (19, str y67)]) (.cons rfl (.cons rfl (.cons rfl (.cons rfl (.cons rfl (.cons rfl (.cons rfl (.cons rfl (.nil _))))))))) ?_
            have hK := law37_DeviceOnce_B1_ok hg hbd hz hS hb ⟨_, hB50, h49⟩
            exact ke_weaken (l' := [(1, str user_1), (2, str id_2), (3, str secret_3), (5, str again_5), (6, .int .i64 now_6), (15, .pointer (some ⟨g38, 0, none⟩)), (17, str y43.1), (19, str y67)]) (.cons rfl (.cons rfl (.cons rfl (.cons rfl (.cons rfl (.cons rfl (.cons rfl (.cons rfl (.nil _))))))))) hK
          · replace hS := ite_false' hS hc66
            refine ke_skip ?_
            have hK := law37_DeviceOnce_B1_ok hg hbd hz hS hb ⟨_, hB50, h49⟩
            exact ke_weaken (l' := [(1, str user_1), (2, str id_2), (3, str secret_3), (5, str again_5), (6, .int .i64 now_6), (15, .pointer (some ⟨g38, 0, none⟩)), (17, str y43.1), (19, str wrong_4)]) (.cons rfl (.cons rfl (.cons rfl (.cons rfl (.cons rfl (.cons rfl (.cons rfl (.cons rfl (.nil _))))))))) hK
    · intro K15
      clear hS
      have hj17 : Tr (flat1 ρA) w11 (fun _ => false) (flat1 ρA) w11 := (Tr.refl hb.bd).weak (fun _ _ => rfl) rfl rfl
      rcases Bool.eq_false_or_eq_true y9 with hg14 | hg14
      · have hS := ite_true' hz18 hg14
        refine sr_pass (e := 25) rfl rfl (by rw [hg14]; rfl) (by decide) ?_
        refine sr_pass (e := 25) rfl rfl (by rw [hg14]; rfl) (by decide) ?_
        refine sr_pass (e := 25) rfl rfl (by rw [hg14]; rfl) (by decide) ?_
        refine sr_pass (e := 25) rfl rfl (by rw [hg14]; rfl) (by decide) ?_
        refine sr_pass (e := 25) rfl rfl (by rw [hg14]; rfl) (by decide) ?_
        refine sr_pass (e := 25) rfl rfl (by rw [hg14]; rfl) (by decide) ?_
        refine sr_pass (e := 25) rfl rfl (by rw [hg14]; rfl) (by decide) ?_
        refine sr_ev (v := .bool true) (ev_pick_t rfl hg14 rfl) (by decide) ?_
        exact sr_weaken (l' := [(0, v1), (1, str user_1), (2, str id_2), (3, str secret_3), (4, str wrong_4), (5, str again_5), (6, .int .i64 now_6), (33, .bool true)]) (.cons rfl (.cons rfl (.cons rfl (.cons rfl (.cons rfl (.cons rfl (.cons rfl (.cons rfl (.nil _))))))))) (K15 true _ ⟨(Option.some.inj hS).symm, _, hj17⟩)
      · have hS := ite_false' hz18 hg14
        refine sr_evg (b := false) (e := 25) rfl rfl hg14 (v := str user_1) (ev_move rfl) (by decide) ?_
        refine sr_evg (b := false) (e := 25) rfl rfl hg14 (v := str id_2) (ev_move rfl) (by decide) ?_
        refine sr_evg (b := false) (e := 25) rfl rfl hg14 (v := str secret_3) (ev_move rfl) (by decide) ?_
        refine sr_evg (b := false) (e := 25) rfl rfl hg14 (v := str wrong_4) (ev_move rfl) (by decide) ?_
        refine sr_evg (b := false) (e := 25) rfl rfl hg14 (v := str again_5) (ev_move rfl) (by decide) ?_
        refine sr_unguard rfl rfl hg14 ?_
        refine sr_litT (c := strC) (ρ := (flat1 ρA)) (E := 9) (xs := [user_1, id_2, secret_3, wrong_4, again_5]) (vs := #[(0, str user_1), (1, str id_2), (2, str secret_3), (3, str wrong_4), (4, str again_5)]) (cs := #[str user_1, str id_2, str secret_3, str wrong_4, str again_5]) (css := [[str user_1], [str id_2], [str secret_3], [str wrong_4], [str again_5]]) rfl (fun _ => by kernel_rfl) rfl ⟨rfl, ⟨rfl, ⟨rfl, ⟨rfl, ⟨rfl, trivial⟩⟩⟩⟩⟩ rfl (by decide) hb.bd (by decide) ?_
        intro v22 w24 h23 hbw26
        have htr25 := Tr.of_below hbw26 hb.bd
        replace h2 := h2.mv htr25.rd
        replace hb := hb.trans htr25
        replace hj17 := (hj17.trans htr25).weak (J' := (fun _ => false)) (by intro t h; simp [rng] at h ⊢ <;> omega) rfl rfl
        obtain ⟨y27, hy28, hS⟩ := bind_some' hS
        refine sr_callg (b := false) (e := 25) rfl rfl hg14 (vs := [v22, .int .i64 5, .int .i64 300]) rfl Tryd.call10 rfl (ref02_Great_ok _ (hg.fr hz hb) h23.asSl hy28) (by decide) ?_
        rintro _ w29 ⟨rfl, hbw30⟩
        have htr31 := Tr.of_below hbw30 hb.bd
        replace h2 := h2.mv htr31.rd
        replace hb := hb.trans htr31
        replace hj17 := (hj17.trans htr31).weak (J' := (fun _ => false)) (by intro t h; simp [rng] at h ⊢ <;> omega) rfl rfl
        refine sr_ev (v := .bool y27) (ev_pick_f rfl hg14 rfl) (by decide) ?_
        exact sr_weaken (l' := [(0, v1), (1, str user_1), (2, str id_2), (3, str secret_3), (4, str wrong_4), (5, str again_5), (6, .int .i64 now_6), (33, .bool y27)]) (.cons rfl (.cons rfl (.cons rfl (.cons rfl (.cons rfl (.cons rfl (.cons rfl (.cons rfl (.nil _))))))))) (K15 y27 _ ⟨(Option.some.inj hS).symm, _, hj17⟩)
theorem ref02_Int_B2_ok {w0 : World} (hg : Gs w0) {A0 : Nat → Prop} (hA0 : ∀ b, A0 b → b < w0.heap.size) (r0 : Int → Str → Int → Option (Str))
    (hr0 : ∀ {r : Str} {n_0 : Int} {out_3 : Str} {m_4 : Int}, r0 n_0 out_3 m_4 = some r → ∀ {w : World} {A : Nat → Prop}, (Below w0.heap.size w0 w) → (∀ b, A b → b < w.heap.size) → (∀ b, A0 b → A b) → (Hp A w0.heap.size w []) → KE Tryd.prog 18 (Ret (fun v w' => v = str r ∧ Below w0.heap.size w0 w')) 31 [.inLoop (sub (bodyOf Tryd.f18) [2, 2, 2, 1, 2, 2, 1]), .inBlock 0, .code (sub (bodyOf Tryd.f18) [2, 2, 2, 2])] [(0, .int .i64 n_0), (3, str out_3), (4, .int .i64 m_4)] w) {r : Str} {n_0 : Int} {out_3 : Str} {m_4 : Int} {d_5 : Int} (hS : ref02_Int_B2 r0 n_0 out_3 m_4 d_5 = some r) {w : World} {A : Nat → Prop} (hb : Below w0.heap.size w0 w) (hA : ∀ b, A b → b < w.heap.size) (hi : ∀ b, A0 b → A b) (hH : Hp A w0.heap.size w []) :
    KE Tryd.prog 18 (Ret (fun v w' => v = str r ∧ Below w0.heap.size w0 w')) 31 [.code (sub (bodyOf Tryd.f18) [2, 2, 2, 1, 2, 2, 1, 2, 1, 2, 2, 2]), .inBlock 1, .code (sub (bodyOf Tryd.f18) [2, 2, 2, 1, 2, 2, 1, 2, 2]), .inLoop (sub (bodyOf Tryd.f18) [2, 2, 2, 1, 2, 2, 1]), .inBlock 0, .code (sub (bodyOf Tryd.f18) [2, 2, 2, 2])] [(0, .int .i64 n_0), (3, str out_3), (4, .int .i64 m_4), (5, .int .i64 d_5)] w := by
  unfold ref02_Int_B2 at hS
  refine ke_region ?_
  refine sr_ev (v := .int .i64 d_5) (ev_move rfl) (by decide) ?_
  refine sr_ev (v := .int .i64 (IntKind.i64.wrap (48 + d_5))) (ev_add rfl rfl) (by decide) ?_
  refine sr_ev (v := .int .u8 (IntKind.u8.wrap (IntKind.i64.wrap (48 + d_5)))) (ev_conv Tryd.underlying5 Tryd.underlying3 rfl) (by decide) ?_
  refine sr_lit (c := (intC .u8)) (A := A) (E := 5) (xs := [IntKind.u8.wrap (IntKind.i64.wrap (48 + d_5))]) (vs := #[(0, .int .u8 (IntKind.u8.wrap (IntKind.i64.wrap (48 + d_5))))]) (cs := #[.int .u8 (IntKind.u8.wrap (IntKind.i64.wrap (48 + d_5)))]) (css := [[.int .u8 (IntKind.u8.wrap (IntKind.i64.wrap (48 + d_5)))]]) rfl (fun _ => by kernel_rfl) rfl ⟨rfl, trivial⟩ rfl (by decide) hA (by decide) ?_
  intro v4 w6 h5 hbw7
  replace hb := hb.trans (hbw7.mono hb.size)
  replace hA := lt_mono hA hbw7.size
  replace hH := hH.below hbw7
  refine sr_ev (v := str (bytesStr ([IntKind.u8.wrap (IntKind.i64.wrap (48 + d_5))] : List Int))) (ev_b2s h5 Tryd.underlying68 Tryd.underlying5 Tryd.underlying9 rfl) (by decide) ?_
  refine sr_ev (v := str out_3) (ev_move rfl) (by decide) ?_
  obtain ⟨hk8, hS⟩ := chk_some hS
  refine sr_ev (v := str ((bytesStr ([IntKind.u8.wrap (IntKind.i64.wrap (48 + d_5))] : List Int)) ++ out_3)) (ev_cat rfl rfl hk8) (by decide) ?_
  refine sr_ev (v := str ((bytesStr ([IntKind.u8.wrap (IntKind.i64.wrap (48 + d_5))] : List Int)) ++ out_3)) (ev_assign rfl) (by decide) ?_
  refine sr_end (l' := [(0, .int .i64 n_0), (3, str ((bytesStr ([IntKind.u8.wrap (IntKind.i64.wrap (48 + d_5))] : List Int)) ++ out_3)), (4, .int .i64 m_4)]) (.cons rfl (.cons rfl (.cons rfl (.nil _)))) ?_
  refine ke_inBlock ?_
  refine ke_region ?_
  refine sr_ev (v := .int .i64 m_4) (ev_move rfl) (by decide) ?_
  refine sr_ev (v := .int .i64 (IntKind.i64.wrap (m_4.tdiv 10))) (ev_quo rfl rfl (by decide)) (by decide) ?_
  refine sr_ev (v := .int .i64 (IntKind.i64.wrap (m_4.tdiv 10))) (ev_assign rfl) (by decide) ?_
  refine sr_end (l' := [(0, .int .i64 n_0), (3, str ((bytesStr ([IntKind.u8.wrap (IntKind.i64.wrap (48 + d_5))] : List Int)) ++ out_3)), (4, .int .i64 (IntKind.i64.wrap (m_4.tdiv 10)))]) (.cons rfl (.cons rfl (.cons rfl (.nil _)))) ?_
  have hK := hr0 hS hb hA hi hH
  exact ke_weaken (l' := [(0, .int .i64 n_0), (3, str ((bytesStr ([IntKind.u8.wrap (IntKind.i64.wrap (48 + d_5))] : List Int)) ++ out_3)), (4, .int .i64 (IntKind.i64.wrap (m_4.tdiv 10)))]) (.cons rfl (.cons rfl (.cons rfl (.nil _)))) hK
theorem ref02_Int_L1_ok {w0 : World} (hg : Gs w0) {A0 : Nat → Prop} (hA0 : ∀ b, A0 b → b < w0.heap.size) : ∀ (n : Nat), ∀ {r : Str} {n_0 : Int} {out_3 : Str} {m_4 : Int}, ref02_Int_L1 n n_0 out_3 m_4 = some r → ∀ {w : World} {A : Nat → Prop}, (Below w0.heap.size w0 w) → (∀ b, A b → b < w.heap.size) → (∀ b, A0 b → A b) → (Hp A w0.heap.size w []) → KE Tryd.prog 18 (Ret (fun v w' => v = str r ∧ Below w0.heap.size w0 w')) 31 [.code (sub (bodyOf Tryd.f18) [2, 2, 2, 1, 2, 2, 1]), .inLoop (sub (bodyOf Tryd.f18) [2, 2, 2, 1, 2, 2, 1]), .inBlock 0, .code (sub (bodyOf Tryd.f18) [2, 2, 2, 2])] [(0, .int .i64 n_0), (3, str out_3), (4, .int .i64 m_4)] w := by
  intro n
  induction n with
  | zero => intro r n_0 out_3 m_4 hS; cases hS
  | succ n ih =>
    have hr0 : ∀ {r : Str} {n_0 : Int} {out_3 : Str} {m_4 : Int}, ref02_Int_L1 n n_0 out_3 m_4 = some r → ∀ {w : World} {A : Nat → Prop}, (Below w0.heap.size w0 w) → (∀ b, A b → b < w.heap.size) → (∀ b, A0 b → A b) → (Hp A w0.heap.size w []) → KE Tryd.prog 18 (Ret (fun v w' => v = str r ∧ Below w0.heap.size w0 w')) 31 [.inLoop (sub (bodyOf Tryd.f18) [2, 2, 2, 1, 2, 2, 1]), .inBlock 0, .code (sub (bodyOf Tryd.f18) [2, 2, 2, 2])] [(0, .int .i64 n_0), (3, str out_3), (4, .int .i64 m_4)] w := fun {r} {n_0} {out_3} {m_4} hS {w} {A} hb hA hi hH => ke_inLoop (ih hS hb hA hi hH)
    clear ih
    intro r n_0 out_3 m_4 hS w A hb hA hi hH
    unfold ref02_Int_L1 at hS
    refine ke_seq ?_
    refine ke_seq ?_
    refine ke_region ?_
    refine sr_ev (v := .int .i64 m_4) (ev_move rfl) (by decide) ?_
    refine sr_ev (v := .bool (m_4 != 0)) (ev_ne rfl rfl) (by decide) ?_
    refine sr_end (l' := [(0, .int .i64 n_0), (3, str out_3), (4, .int .i64 m_4), (10, .bool (m_4 != 0))]) (.cons rfl (.cons rfl (.cons rfl (.cons rfl (.nil _))))) ?_
    refine ke_cond (t := m_4 != 0) rfl (fun hc2 => ?_) (fun hc2 => ?_)
    · replace hS := ite_true' hS hc2
      refine ke_skip ?_
      refine ke_seq ?_
      refine ke_block ?_
      refine ke_seq ?_
      refine ke_region ?_
      refine sr_ev (v := .int .i64 m_4) (ev_move rfl) (by decide) ?_
      refine sr_ev (v := .int .i64 (Int.tmod m_4 10)) (ev_rem rfl rfl (by decide)) (by decide) ?_
      refine sr_ev (v := .int .i64 (Int.tmod m_4 10)) (ev_assign rfl) (by decide) ?_
      refine sr_end (l' := [(0, .int .i64 n_0), (3, str out_3), (4, .int .i64 m_4), (5, .int .i64 (Int.tmod m_4 10))]) (.cons rfl (.cons rfl (.cons rfl (.cons rfl (.nil _))))) ?_
      refine ke_seq ?_
      refine ke_seq ?_
      refine ke_region ?_
      refine sr_ev (v := .int .i64 (Int.tmod m_4 10)) (ev_move rfl) (by decide) ?_
      refine sr_ev (v := .bool (decide ((Int.tmod m_4 10) < 0))) (ev_lt rfl rfl) (by decide) ?_
      refine sr_end (l' := [(0, .int .i64 n_0), (3, str out_3), (4, .int .i64 m_4), (5, .int .i64 (Int.tmod m_4 10)), (16, .bool (decide ((Int.tmod m_4 10) < 0)))]) (.cons rfl (.cons rfl (.cons rfl (.cons rfl (.cons rfl (.nil _)))))) ?_
      refine ke_cond (t := decide ((Int.tmod m_4 10) < 0)) rfl (fun hc3 => ?_) (fun hc3 => ?_)
      · replace hS := ite_true' hS hc3
        refine ke_region ?_
        refine sr_ev (v := .int .i64 (Int.tmod m_4 10)) (ev_move rfl) (by decide) ?_
        refine sr_ev (v := .int .i64 (IntKind.i64.wrap (0 - (Int.tmod m_4 10)))) (ev_neg rfl) (by decide) ?_
        refine sr_ev (v := .int .i64 (IntKind.i64.wrap (0 - (Int.tmod m_4 10)))) (ev_assign rfl) (by decide) ?_
        refine sr_end (l' := [(0, .int .i64 n_0), (3, str out_3), (4, .int .i64 m_4), (5, .int .i64 (IntKind.i64.wrap (0 - (Int.tmod m_4 10))))]) (.cons rfl (.cons rfl (.cons rfl (.cons rfl (.nil _))))) ?_
        have hK := ref02_Int_B2_ok hg hA0 _ hr0 hS hb hA hi hH
        exact ke_weaken (l' := [(0, .int .i64 n_0), (3, str out_3), (4, .int .i64 m_4), (5, .int .i64 (IntKind.i64.wrap (0 - (Int.tmod m_4 10))))]) (.cons rfl (.cons rfl (.cons rfl (.cons rfl (.nil _))))) hK
      · replace hS := ite_false' hS hc3
        refine ke_skip ?_
        have hK := ref02_Int_B2_ok hg hA0 _ hr0 hS hb hA hi hH
        exact ke_weaken (l' := [(0, .int .i64 n_0), (3, str out_3), (4, .int .i64 m_4), (5, .int .i64 (Int.tmod m_4 10))]) (.cons rfl (.cons rfl (.cons rfl (.cons rfl (.nil _))))) hK
    · replace hS := ite_false' hS hc2
      refine ke_exit (k' := _) rfl ?_
      refine ke_seq ?_
      refine ke_seq ?_
      refine ke_region ?_
      refine sr_ev (v := .int .i64 n_0) (ev_move rfl) (by decide) ?_
      refine sr_ev (v := .bool (decide (n_0 < 0))) (ev_lt rfl rfl) (by decide) ?_
      refine sr_end (l' := [(3, str out_3), (27, .bool (decide (n_0 < 0)))]) (.cons rfl (.cons rfl (.nil _))) ?_
      refine ke_cond (t := decide (n_0 < 0)) rfl (fun hc9 => ?_) (fun hc9 => ?_)
      · replace hS := ite_true' hS hc9
        refine ke_seq ?_
        refine ke_region ?_
        refine sr_ev (v := str out_3) (ev_move rfl) (by decide) ?_
        obtain ⟨hk10, hS⟩ := chk_some hS
        refine sr_ev (v := str (([45]) ++ out_3)) (ev_cat rfl rfl hk10) (by decide) ?_
        refine sr_ev (v := str (([45]) ++ out_3)) (ev_assign rfl) (by decide) ?_
        refine sr_end (l' := [(2, str (([45]) ++ out_3))]) (.cons rfl (.nil _)) ?_
        cases hS
        exact ke_ret1 Tryd.func18 rfl rfl ⟨_, rfl, rfl, hb⟩
      · replace hS := ite_false' hS hc9
        refine ke_skip ?_
        refine ke_seq ?_
        refine ke_region ?_
        refine sr_ev (v := str out_3) (ev_move rfl) (by decide) ?_
        refine sr_ev (v := str out_3) (ev_assign rfl) (by decide) ?_
        refine sr_end (l' := [(2, str out_3)]) (.cons rfl (.nil _)) ?_
        cases hS
        exact ke_ret1 Tryd.func18 rfl rfl ⟨_, rfl, rfl, hb⟩
theorem ref02_Int_ok (w0 : World) (hg : Gs w0) {n_0 : Int} {r : Str} (hS : ref02_Int n_0 = some r) :
    Calls Tryd.prog 18 #[.int .i64 n_0] w0 (Ret (fun v w' => v = str r ∧ Below w0.heap.size w0 w')) := by
  unfold ref02_Int at hS
  have hb := Below.refl w0.heap.size w0
  obtain ⟨A0, hA0, hAe⟩ : ∃ A0 : Nat → Prop, (∀ b, A0 b → b < w0.heap.size) ∧ A0 = fun _ => False := ⟨_, fun _ h => h.elim, rfl⟩
  clear hAe
  have hA := hA0
  have hi : ∀ b, A0 b → A0 b := fun _ h => h
  have hH := Hp.nil A0 w0.heap.size w0
  refine calls_of_ke Tryd.func18 rfl (n := 31) rfl rfl (l := [(0, .int .i64 n_0)]) rfl ?_
  refine ke_seq ?_
  refine ke_region ?_
  refine sr_ev (v := str ([])) (ev_assign rfl) (by decide) ?_
  refine sr_end (l' := [(0, .int .i64 n_0)]) (.cons rfl (.nil _)) ?_
  refine ke_seq ?_
  refine ke_seq ?_
  refine ke_region ?_
  refine sr_ev (v := .int .i64 n_0) (ev_move rfl) (by decide) ?_
  refine sr_ev (v := .bool (n_0 == 0)) (ev_eq rfl rfl) (by decide) ?_
  refine sr_end (l' := [(0, .int .i64 n_0), (7, .bool (n_0 == 0))]) (.cons rfl (.cons rfl (.nil _))) ?_
  refine ke_cond (t := n_0 == 0) rfl (fun hc1 => ?_) (fun hc1 => ?_)
  · replace hS := ite_true' hS hc1
    refine ke_seq ?_
    refine ke_region ?_
    refine sr_ev (v := str ([48])) (ev_assign rfl) (by decide) ?_
    refine sr_end (l' := [(2, str ([48]))]) (.cons rfl (.nil _)) ?_
    cases hS
    exact ke_ret1 Tryd.func18 rfl rfl ⟨_, rfl, rfl, hb⟩
  · replace hS := ite_false' hS hc1
    refine ke_skip ?_
    refine ke_seq ?_
    refine ke_region ?_
    refine sr_ev (v := str ([])) (ev_assign rfl) (by decide) ?_
    refine sr_end (l' := [(0, .int .i64 n_0), (3, str ([]))]) (.cons rfl (.cons rfl (.nil _))) ?_
    refine ke_seq ?_
    refine ke_seq ?_
    refine ke_region ?_
    refine sr_ev (v := .int .i64 n_0) (ev_move rfl) (by decide) ?_
    refine sr_ev (v := .int .i64 n_0) (ev_assign rfl) (by decide) ?_
    refine sr_end (l' := [(0, .int .i64 n_0), (3, str ([])), (4, .int .i64 n_0)]) (.cons rfl (.cons rfl (.cons rfl (.nil _)))) ?_
    refine ke_block ?_
    have hK := ref02_Int_L1_ok hg hA0 _ hS hb hA hi hH
    exact ke_weaken (l' := [(0, .int .i64 n_0), (3, str ([])), (4, .int .i64 n_0)]) (.cons rfl (.cons rfl (.cons rfl (.nil _)))) (ke_loop hK)
theorem law37_DeviceChallenges_B2_ok {w0 : World} (hg : Gs w0) {ρA : Tags} (hbd : ∀ b, ρA b ≠ 0 → b < w0.heap.size) (hz : Gz (flat1 ρA)) (r0 : List law37_Op → device_Devices → List Str → List Str → Int → Int → Option (Bool))
    (hr0 : ∀ {r : Bool} {ops_0 : List law37_Op} {od_3 : device_Devices} {texts_4 : List Str} {forms_5 : List Str} {t_16 : Int} {t_17 : Int} {vops_0 : Value} {gd_3 : Nat} {vtexts_4 : Value} {vforms_5 : Value}, r0 ops_0 od_3 texts_4 forms_5 t_16 t_17 = some r → ∀ {ρ : Tags} {w : World}, (Fr (flat1 ρA) w0 ρ w) → (SlR law37_Op.c (Wb ρ) w vops_0 ops_0) → (device_Devices.O (fun p => 100 + p) ρ w gd_3 od_3) → (OwnT strC 9 ρ 6 w vtexts_4 texts_4) → (OwnT strC 9 ρ 7 w vforms_5 forms_5) → KE Tryd.prog 4 (Ret (fun v w' => v = .bool r ∧ Below w0.heap.size w0 w')) 138 [.inLoop (sub (bodyOf Tryd.f4) [2, 2, 2, 2, 2, 1, 2, 2, 1]), .inBlock 0, .code (sub (bodyOf Tryd.f4) [2, 2, 2, 2, 2, 2])] [(0, vops_0), (3, .pointer (some ⟨gd_3, 0, none⟩)), (4, vtexts_4), (5, vforms_5), (16, .int .i64 t_16), (17, .int .i64 t_17)] w) {r : Bool} {ops_0 : List law37_Op} {od_3 : device_Devices} {texts_4 : List Str} {forms_5 : List Str} {t_16 : Int} {t_17 : Int} {vops_0 : Value} {gd_3 : Nat} {vtexts_4 : Value} {vforms_5 : Value} (hS : law37_DeviceChallenges_B2 r0 ops_0 od_3 texts_4 forms_5 t_16 t_17 = some r) {ρ : Tags} {w : World} (hb : Fr (flat1 ρA) w0 ρ w) (hops_0 : SlR law37_Op.c (Wb ρ) w vops_0 ops_0) (hod_3 : device_Devices.O (fun p => 100 + p) ρ w gd_3 od_3) (htexts_4 : OwnT strC 9 ρ 6 w vtexts_4 texts_4) (hforms_5 : OwnT strC 9 ρ 7 w vforms_5 forms_5) :
    KE Tryd.prog 4 (Ret (fun v w' => v = .bool r ∧ Below w0.heap.size w0 w')) 138 [.code (sub (bodyOf Tryd.f4) [2, 2, 2, 2, 2, 1, 2, 2, 1, 2, 2, 2]), .inLoop (sub (bodyOf Tryd.f4) [2, 2, 2, 2, 2, 1, 2, 2, 1]), .inBlock 0, .code (sub (bodyOf Tryd.f4) [2, 2, 2, 2, 2, 2])] [(0, vops_0), (3, .pointer (some ⟨gd_3, 0, none⟩)), (4, vtexts_4), (5, vforms_5), (16, .int .i64 t_16), (17, .int .i64 t_17)] w := by
  unfold law37_DeviceChallenges_B2 at hS
  obtain ⟨v266, hB268, h267⟩ := hod_3
  replace hB268 : Blk ρ 100 w gd_3 (.cells #[v266, .int .i64 od_3.given] 62 (0, 0)) := hB268
  replace h267 : MapT device_key.ek device_record.c true ρ 101 w v266 od_3.records := h267
  refine ke_region ?_
  refine sr_ev (v := .int .i64 (IntKind.i64.wrap (t_17 + 1))) (ev_add rfl rfl) (by decide) ?_
  refine sr_ev (v := .int .i64 (IntKind.i64.wrap (t_17 + 1))) (ev_move rfl) (by decide) ?_
  refine sr_end (l' := [(0, vops_0), (3, .pointer (some ⟨gd_3, 0, none⟩)), (4, vtexts_4), (5, vforms_5), (16, .int .i64 t_16), (17, .int .i64 (IntKind.i64.wrap (t_17 + 1)))]) (.cons rfl (.cons rfl (.cons rfl (.cons rfl (.cons rfl (.cons rfl (.nil _))))))) ?_
  have hK := hr0 hS hb hops_0 ⟨_, hB268, h267⟩ htexts_4 hforms_5
  exact ke_weaken (l' := [(0, vops_0), (3, .pointer (some ⟨gd_3, 0, none⟩)), (4, vtexts_4), (5, vforms_5), (16, .int .i64 t_16), (17, .int .i64 (IntKind.i64.wrap (t_17 + 1)))]) (.cons rfl (.cons rfl (.cons rfl (.cons rfl (.cons rfl (.cons rfl (.nil _))))))) hK
theorem law37_DeviceChallenges_L3_ok {w0 : World} (hg : Gs w0) {ρA : Tags} (hbd : ∀ b, ρA b ≠ 0 → b < w0.heap.size) (hz : Gz (flat1 ρA)) (r0 : List law37_Op → device_Devices → List Str → List Str → Int → Int → Option (Bool))
    (hr0 : ∀ {r : Bool} {ops_0 : List law37_Op} {od_3 : device_Devices} {texts_4 : List Str} {forms_5 : List Str} {t_16 : Int} {t_17 : Int} {vops_0 : Value} {gd_3 : Nat} {vtexts_4 : Value} {vforms_5 : Value}, r0 ops_0 od_3 texts_4 forms_5 t_16 t_17 = some r → ∀ {ρ : Tags} {w : World}, (Fr (flat1 ρA) w0 ρ w) → (SlR law37_Op.c (Wb ρ) w vops_0 ops_0) → (device_Devices.O (fun p => 100 + p) ρ w gd_3 od_3) → (OwnT strC 9 ρ 6 w vtexts_4 texts_4) → (OwnT strC 9 ρ 7 w vforms_5 forms_5) → KE Tryd.prog 4 (Ret (fun v w' => v = .bool r ∧ Below w0.heap.size w0 w')) 138 [.inLoop (sub (bodyOf Tryd.f4) [2, 2, 2, 2, 2, 1, 2, 2, 1]), .inBlock 0, .code (sub (bodyOf Tryd.f4) [2, 2, 2, 2, 2, 2])] [(0, vops_0), (3, .pointer (some ⟨gd_3, 0, none⟩)), (4, vtexts_4), (5, vforms_5), (16, .int .i64 t_16), (17, .int .i64 t_17)] w) : ∀ (n : Nat), ∀ {r : Bool} {ops_0 : List law37_Op} {od_3 : device_Devices} {texts_4 : List Str} {forms_5 : List Str} {i_6 : Int} {c_7 : Str} {t_16 : Int} {t_17 : Int} {t_91 : Int} {t_92 : Int} {vops_0 : Value} {gd_3 : Nat} {vtexts_4 : Value} {vforms_5 : Value}, law37_DeviceChallenges_L3 r0 n ops_0 od_3 texts_4 forms_5 i_6 c_7 t_16 t_17 t_91 t_92 = some r → ∀ {ρ : Tags} {w : World}, (Fr (flat1 ρA) w0 ρ w) → (SlR law37_Op.c (Wb ρ) w vops_0 ops_0) → (device_Devices.O (fun p => 100 + p) ρ w gd_3 od_3) → (OwnT strC 9 ρ 6 w vtexts_4 texts_4) → (OwnT strC 9 ρ 7 w vforms_5 forms_5) → KE Tryd.prog 4 (Ret (fun v w' => v = .bool r ∧ Below w0.heap.size w0 w')) 138 [.code (sub (bodyOf Tryd.f4) [2, 2, 2, 2, 2, 1, 2, 2, 1, 2, 2, 1, 2, 2, 2, 2, 2, 1, 2, 2, 1]), .inLoop (sub (bodyOf Tryd.f4) [2, 2, 2, 2, 2, 1, 2, 2, 1, 2, 2, 1, 2, 2, 2, 2, 2, 1, 2, 2, 1]), .inBlock 2, .code (sub (bodyOf Tryd.f4) [2, 2, 2, 2, 2, 1, 2, 2, 1, 2, 2, 1, 2, 2, 2, 2, 2, 2]), .inBlock 1, .code (sub (bodyOf Tryd.f4) [2, 2, 2, 2, 2, 1, 2, 2, 1, 2, 2, 2]), .inLoop (sub (bodyOf Tryd.f4) [2, 2, 2, 2, 2, 1, 2, 2, 1]), .inBlock 0, .code (sub (bodyOf Tryd.f4) [2, 2, 2, 2, 2, 2])] [(0, vops_0), (3, .pointer (some ⟨gd_3, 0, none⟩)), (4, vtexts_4), (5, vforms_5), (6, .int .i64 i_6), (7, str c_7), (16, .int .i64 t_16), (17, .int .i64 t_17), (91, .int .i64 t_91), (92, .int .i64 t_92)] w := by
  intro n
  induction n with
  | zero => intro r ops_0 od_3 texts_4 forms_5 i_6 c_7 t_16 t_17 t_91 t_92 vops_0 gd_3 vtexts_4 vforms_5 hS; cases hS
  | succ n ih =>
    have hr1 : ∀ {r : Bool} {ops_0 : List law37_Op} {od_3 : device_Devices} {texts_4 : List Str} {forms_5 : List Str} {i_6 : Int} {c_7 : Str} {t_16 : Int} {t_17 : Int} {t_91 : Int} {t_92 : Int} {vops_0 : Value} {gd_3 : Nat} {vtexts_4 : Value} {vforms_5 : Value}, law37_DeviceChallenges_L3 r0 n ops_0 od_3 texts_4 forms_5 i_6 c_7 t_16 t_17 t_91 t_92 = some r → ∀ {ρ : Tags} {w : World}, (Fr (flat1 ρA) w0 ρ w) → (SlR law37_Op.c (Wb ρ) w vops_0 ops_0) → (device_Devices.O (fun p => 100 + p) ρ w gd_3 od_3) → (OwnT strC 9 ρ 6 w vtexts_4 texts_4) → (OwnT strC 9 ρ 7 w vforms_5 forms_5) → KE Tryd.prog 4 (Ret (fun v w' => v = .bool r ∧ Below w0.heap.size w0 w')) 138 [.inLoop (sub (bodyOf Tryd.f4) [2, 2, 2, 2, 2, 1, 2, 2, 1, 2, 2, 1, 2, 2, 2, 2, 2, 1, 2, 2, 1]), .inBlock 2, .code (sub (bodyOf Tryd.f4) [2, 2, 2, 2, 2, 1, 2, 2, 1, 2, 2, 1, 2, 2, 2, 2, 2, 2]), .inBlock 1, .code (sub (bodyOf Tryd.f4) [2, 2, 2, 2, 2, 1, 2, 2, 1, 2, 2, 2]), .inLoop (sub (bodyOf Tryd.f4) [2, 2, 2, 2, 2, 1, 2, 2, 1]), .inBlock 0, .code (sub (bodyOf Tryd.f4) [2, 2, 2, 2, 2, 2])] [(0, vops_0), (3, .pointer (some ⟨gd_3, 0, none⟩)), (4, vtexts_4), (5, vforms_5), (6, .int .i64 i_6), (7, str c_7), (16, .int .i64 t_16), (17, .int .i64 t_17), (91, .int .i64 t_91), (92, .int .i64 t_92)] w := fun {r} {ops_0} {od_3} {texts_4} {forms_5} {i_6} {c_7} {t_16} {t_17} {t_91} {t_92} {vops_0} {gd_3} {vtexts_4} {vforms_5} hS {ρ} {w} hb hops_0 hod_3 htexts_4 hforms_5 => ke_inLoop (ih hS hb hops_0 hod_3 htexts_4 hforms_5)
    clear ih
    intro r ops_0 od_3 texts_4 forms_5 i_6 c_7 t_16 t_17 t_91 t_92 vops_0 gd_3 vtexts_4 vforms_5 hS ρ w hb hops_0 hod_3 htexts_4 hforms_5
    unfold law37_DeviceChallenges_L3 at hS
    obtain ⟨v384, hB386, h385⟩ := hod_3
    replace hB386 : Blk ρ 100 w gd_3 (.cells #[v384, .int .i64 od_3.given] 62 (0, 0)) := hB386
    replace h385 : MapT device_key.ek device_record.c true ρ 101 w v384 od_3.records := h385
    refine ke_seq ?_
    refine ke_region ?_
    refine sr_ev (v := .bool (decide (t_92 < t_91))) (ev_lt rfl rfl) (by decide) ?_
    refine sr_end (l' := [(0, vops_0), (3, .pointer (some ⟨gd_3, 0, none⟩)), (4, vtexts_4), (5, vforms_5), (6, .int .i64 i_6), (7, str c_7), (16, .int .i64 t_16), (17, .int .i64 t_17), (91, .int .i64 t_91), (92, .int .i64 t_92), (93, .bool (decide (t_92 < t_91)))]) (.cons rfl (.cons rfl (.cons rfl (.cons rfl (.cons rfl (.cons rfl (.cons rfl (.cons rfl (.cons rfl (.cons rfl (.cons rfl (.nil _)))))))))))) ?_
    refine ke_seq ?_
    refine ke_cond (t := decide (t_92 < t_91)) rfl (fun hc387 => ?_) (fun hc387 => ?_)
    · replace hS := ite_true' hS hc387
      refine ke_skip ?_
      refine ke_seq ?_
      refine ke_block ?_
      refine ke_seq ?_
      refine ke_region ?_
      refine sr_ev (v := .int .i64 t_92) (ev_move rfl) (by decide) ?_
      refine sr_ev (v := .int .i64 t_92) (ev_assign rfl) (by decide) ?_
      refine sr_end (l' := [(0, vops_0), (3, .pointer (some ⟨gd_3, 0, none⟩)), (4, vtexts_4), (5, vforms_5), (6, .int .i64 i_6), (7, str c_7), (9, .int .i64 t_92), (16, .int .i64 t_16), (17, .int .i64 t_17), (91, .int .i64 t_91), (92, .int .i64 t_92)]) (.cons rfl (.cons rfl (.cons rfl (.cons rfl (.cons rfl (.cons rfl (.cons rfl (.cons rfl (.cons rfl (.cons rfl (.cons rfl (.nil _)))))))))))) ?_
      refine ke_seq ?_
      refine ke_region_q Tryd.mixed (by kernel_rfl) ?_
      refine sq_ev (v := vtexts_4) (fun w1 hw1 => ev_move rfl) (by decide) ?_
      refine sq_ev (v := .int .i64 t_92) (fun w1 hw1 => ev_move rfl) (by decide) ?_
      obtain ⟨y390, hy391, hS⟩ := bind_some' hS
      obtain ⟨b392, o393, cs395, hq396, he394, hg397, ho398⟩ := htexts_4.elemQ (P := Tryd.prog) Tryd.underlying26 Tryd.info9 rfl hy391
      obtain rfl : cs395 = [str y390] := he394.rd
      refine sq_ev (v := .pointer (some ⟨b392, o393, none⟩)) (fun w1 hw1 => hq396 w1 rfl rfl) (by decide) ?_
      refine sq_ev (v := str y390) (fun w1 hw1 => ev_load Tryd.isAgg9 rfl ((he394.mv (Mv.of_below (i := 6) (ρ := ρ) hw1) (Nat.succ_pos _)).cell 0 _ rfl)) (by decide) ?_
      refine sq_ev (v := str c_7) (fun w1 hw1 => ev_move rfl) (by decide) ?_
      refine sq_ev (v := .bool (y390 == c_7)) (fun w1 hw1 => ev_seq rfl rfl) (by decide) ?_
      refine sq_ev (v := .bool (y390 == c_7)) (fun w1 hw1 => ev_move rfl) (by decide) ?_
      obtain ⟨z401, hz403, hS⟩ := bind_some' hS
      refine sq_join (m := 13) (C := fun (x : Bool) => z401 = x) (l' := fun x => [(0, vops_0), (3, .pointer (some ⟨gd_3, 0, none⟩)), (4, vtexts_4), (5, vforms_5), (6, .int .i64 i_6), (7, str c_7), (16, .int .i64 t_16), (17, .int .i64 t_17), (91, .int .i64 t_91), (92, .int .i64 t_92), (114, .bool x)]) ?_ ?_
      · rintro _ rfl
        refine sq_end (l' := [(0, vops_0), (3, .pointer (some ⟨gd_3, 0, none⟩)), (4, vtexts_4), (5, vforms_5), (6, .int .i64 i_6), (7, str c_7), (16, .int .i64 t_16), (17, .int .i64 t_17), (91, .int .i64 t_91), (92, .int .i64 t_92), (114, .bool z401)]) (.cons rfl (.cons rfl (.cons rfl (.cons rfl (.cons rfl (.cons rfl (.cons rfl (.cons rfl (.cons rfl (.cons rfl (.cons rfl (.nil _)))))))))))) (fun w389 hw388 => ?_)
        have htr434 := Tr.of_below hw388 hb.bd
        replace hops_0 := hops_0.mv htr434.rd
        replace htexts_4 := htexts_4.mv (htr434.mv (i := 6) rfl) (by decide)
        replace hforms_5 := hforms_5.mv (htr434.mv (i := 7) rfl) (by decide)
        replace hB386 := hB386.mv (htr434.mv (i := 100) rfl)
        replace h385 := h385.mv (htr434.mv (i := 101) rfl)
        replace hb := hb.trans htr434
        refine ke_cond (t := z401) rfl (fun hc435 => ?_) (fun hc435 => ?_)
        · replace hS := ite_true' hS hc435
          refine ke_seq ?_
          refine ke_region ?_
          refine sr_ev (v := .bool false) (ev_assign rfl) (by decide) ?_
          refine sr_end (l' := [(2, .bool false)]) (.cons rfl (.nil _)) ?_
          cases hS
          exact ke_ret1 Tryd.func4 rfl rfl ⟨_, rfl, rfl, (hb.below (flat1_le _))⟩
        · replace hS := ite_false' hS hc435
          refine ke_skip ?_
          refine ke_inBlock ?_
          refine ke_region ?_
          refine sr_ev (v := .int .i64 (IntKind.i64.wrap (t_92 + 1))) (ev_add rfl rfl) (by decide) ?_
          refine sr_ev (v := .int .i64 (IntKind.i64.wrap (t_92 + 1))) (ev_move rfl) (by decide) ?_
          refine sr_end (l' := [(0, vops_0), (3, .pointer (some ⟨gd_3, 0, none⟩)), (4, vtexts_4), (5, vforms_5), (6, .int .i64 i_6), (7, str c_7), (16, .int .i64 t_16), (17, .int .i64 t_17), (91, .int .i64 t_91), (92, .int .i64 (IntKind.i64.wrap (t_92 + 1)))]) (.cons rfl (.cons rfl (.cons rfl (.cons rfl (.cons rfl (.cons rfl (.cons rfl (.cons rfl (.cons rfl (.cons rfl (.nil _))))))))))) ?_
          have hK := hr1 hS hb hops_0 ⟨_, hB386, h385⟩ htexts_4 hforms_5
          exact ke_weaken (l' := [(0, vops_0), (3, .pointer (some ⟨gd_3, 0, none⟩)), (4, vtexts_4), (5, vforms_5), (6, .int .i64 i_6), (7, str c_7), (16, .int .i64 t_16), (17, .int .i64 t_17), (91, .int .i64 t_91), (92, .int .i64 (IntKind.i64.wrap (t_92 + 1)))]) (.cons rfl (.cons rfl (.cons rfl (.cons rfl (.cons rfl (.cons rfl (.cons rfl (.cons rfl (.cons rfl (.cons rfl (.nil _))))))))))) hK
      · intro K400
        clear hS
        rcases Bool.eq_false_or_eq_true (y390 == c_7) with hg399 | hg399
        · have hS := ite_true' hz403 hg399
          refine sq_evg (b := true) (e := 101) rfl rfl hg399 (v := vforms_5) (fun w1 hw1 => ev_move rfl) (by decide) ?_
          refine sq_evg (b := true) (e := 101) rfl rfl hg399 (v := .int .i64 t_92) (fun w1 hw1 => ev_move rfl) (by decide) ?_
          obtain ⟨y406, hy407, hS⟩ := bind_some' hS
          obtain ⟨b408, o409, cs411, hq412, he410, hg413, ho414⟩ := hforms_5.elemQ (P := Tryd.prog) Tryd.underlying26 Tryd.info9 rfl hy407
          obtain rfl : cs411 = [str y406] := he410.rd
          refine sq_evg (b := true) (e := 101) rfl rfl hg399 (v := .pointer (some ⟨b408, o409, none⟩)) (fun w1 hw1 => hq412 w1 rfl rfl) (by decide) ?_
          refine sq_evg (b := true) (e := 101) rfl rfl hg399 (v := str y406) (fun w1 hw1 => ev_load Tryd.isAgg9 rfl ((he410.mv (Mv.of_below (i := 7) (ρ := ρ) hw1) (Nat.succ_pos _)).cell 0 _ rfl)) (by decide) ?_
          obtain ⟨y415, hy416, hS⟩ := bind_some' hS
          refine sq_callg (b := true) (e := 101) rfl rfl hg399 (v := str y415) (vs := [str y406]) rfl Tryd.call19 rfl (fun w1 hw1 => (digest_Text_ok _ ((hg.fr hz hb).below hw1) hy416)) (by decide) ?_
          refine sq_evg (b := true) (e := 101) rfl rfl hg399 (v := vforms_5) (fun w1 hw1 => ev_move rfl) (by decide) ?_
          refine sq_evg (b := true) (e := 101) rfl rfl hg399 (v := vtexts_4) (fun w1 hw1 => ev_move rfl) (by decide) ?_
          refine sq_evg (b := true) (e := 101) rfl rfl hg399 (v := .int .i64 (texts_4.length : Int)) (fun w1 hw1 => ev_sllen Tryd.underlying26 rfl (htexts_4.mv (Mv.of_below (i := 6) (ρ := ρ) hw1) (by decide)).asSl) (by decide) ?_
          obtain ⟨y420, hy421, hS⟩ := bind_some' hS
          obtain ⟨b422, o423, cs425, hq426, he424, hg427, ho428⟩ := hforms_5.elemQ (P := Tryd.prog) Tryd.underlying26 Tryd.info9 rfl hy421
          obtain rfl : cs425 = [str y420] := he424.rd
          refine sq_evg (b := true) (e := 101) rfl rfl hg399 (v := .pointer (some ⟨b422, o423, none⟩)) (fun w1 hw1 => hq426 w1 rfl rfl) (by decide) ?_
          refine sq_evg (b := true) (e := 101) rfl rfl hg399 (v := str y420) (fun w1 hw1 => ev_load Tryd.isAgg9 rfl ((he424.mv (Mv.of_below (i := 7) (ρ := ρ) hw1) (Nat.succ_pos _)).cell 0 _ rfl)) (by decide) ?_
          obtain ⟨y429, hy430, hS⟩ := bind_some' hS
          refine sq_callg (b := true) (e := 101) rfl rfl hg399 (v := str y429) (vs := [str y420]) rfl Tryd.call19 rfl (fun w1 hw1 => (digest_Text_ok _ ((hg.fr hz hb).below hw1) hy430)) (by decide) ?_
          refine sq_evg (b := true) (e := 101) rfl rfl hg399 (v := .bool (!(y415 == y429))) (fun w1 hw1 => ev_sne rfl rfl) (by decide) ?_
          refine sq_ev (v := .bool (!(y415 == y429))) (fun w1 hw1 => ev_pick_t rfl hg399 rfl) (by decide) ?_
          exact sq_weaken (l' := [(0, vops_0), (3, .pointer (some ⟨gd_3, 0, none⟩)), (4, vtexts_4), (5, vforms_5), (6, .int .i64 i_6), (7, str c_7), (16, .int .i64 t_16), (17, .int .i64 t_17), (91, .int .i64 t_91), (92, .int .i64 t_92), (114, .bool (!(y415 == y429)))]) (.cons rfl (.cons rfl (.cons rfl (.cons rfl (.cons rfl (.cons rfl (.cons rfl (.cons rfl (.cons rfl (.cons rfl (.cons rfl (.nil _)))))))))))) (K400 (!(y415 == y429)) (Option.some.inj hS).symm)
        · have hS := ite_false' hz403 hg399
          refine sq_pass (e := 101) rfl rfl (by rw [hg399]; rfl) (by decide) ?_
          refine sq_pass (e := 101) rfl rfl (by rw [hg399]; rfl) (by decide) ?_
          refine sq_pass (e := 101) rfl rfl (by rw [hg399]; rfl) (by decide) ?_
          refine sq_pass (e := 101) rfl rfl (by rw [hg399]; rfl) (by decide) ?_
          refine sq_pass (e := 101) rfl rfl (by rw [hg399]; rfl) (by decide) ?_
          refine sq_pass (e := 101) rfl rfl (by rw [hg399]; rfl) (by decide) ?_
          refine sq_pass (e := 101) rfl rfl (by rw [hg399]; rfl) (by decide) ?_
          refine sq_pass (e := 101) rfl rfl (by rw [hg399]; rfl) (by decide) ?_
          refine sq_pass (e := 101) rfl rfl (by rw [hg399]; rfl) (by decide) ?_
          refine sq_pass (e := 101) rfl rfl (by rw [hg399]; rfl) (by decide) ?_
          refine sq_pass (e := 101) rfl rfl (by rw [hg399]; rfl) (by decide) ?_
          refine sq_pass (e := 101) rfl rfl (by rw [hg399]; rfl) (by decide) ?_
          refine sq_ev (v := .bool false) (fun w1 hw1 => ev_pick_f rfl hg399 rfl) (by decide) ?_
          exact sq_weaken (l' := [(0, vops_0), (3, .pointer (some ⟨gd_3, 0, none⟩)), (4, vtexts_4), (5, vforms_5), (6, .int .i64 i_6), (7, str c_7), (16, .int .i64 t_16), (17, .int .i64 t_17), (91, .int .i64 t_91), (92, .int .i64 t_92), (114, .bool false)]) (.cons rfl (.cons rfl (.cons rfl (.cons rfl (.cons rfl (.cons rfl (.cons rfl (.cons rfl (.cons rfl (.cons rfl (.cons rfl (.nil _)))))))))))) (K400 false (Option.some.inj hS).symm)
    · replace hS := ite_false' hS hc387
      refine ke_exit (k' := _) rfl ?_
      refine ke_seq ?_
      refine ke_region ?_
      refine sr_ev (v := vtexts_4) (ev_move rfl) (by decide) ?_
      refine sr_ev (v := str c_7) (ev_move rfl) (by decide) ?_
      refine sr_litT (c := strC) (ρ := ρ) (E := 9) (xs := [c_7]) (vs := #[(0, str c_7)]) (cs := #[str c_7]) (css := [[str c_7]]) rfl (fun _ => by kernel_rfl) rfl ⟨rfl, trivial⟩ rfl (by decide) hb.bd (by decide) ?_
      intro v436 w438 h437 hbw440
      have htr439 := Tr.of_below hbw440 hb.bd
      replace hops_0 := hops_0.mv htr439.rd
      replace hforms_5 := hforms_5.mv (htr439.mv (i := 7) rfl) (by decide)
      replace htexts_4 := htexts_4.mv (htr439.mv (i := 6) rfl) (by decide)
      replace hB386 := hB386.mv (htr439.mv (i := 100) rfl)
      replace h385 := h385.mv (htr439.mv (i := 101) rfl)
      replace hb := hb.trans htr439
      obtain ⟨hk441, hS⟩ := chk_some hS
      refine sr_appendT (i := 6) (c := strC) (ρ := ρ) (E := 9) (xs := texts_4) (ys := ([c_7] : List Str)) htexts_4 ((SlT.of_sl (i := 0) h437)).x Tryd.underlying26 Tryd.info9 rfl rfl rfl (by decide) (by decide) (by decide) hb.bd hk441 rfl rfl (by decide) ?_
      intro v442 ρ444 w445 h443 htr446
      replace hops_0 := hops_0.mv htr446.rd
      replace hforms_5 := hforms_5.mv (htr446.mv (i := 7) rfl) (by decide)
      replace hB386 := hB386.mv (htr446.mv (i := 100) rfl)
      replace h385 := h385.mv (htr446.mv (i := 101) rfl)
      replace hb := hb.trans htr446
      refine sr_ev (v := v442) (ev_assign rfl) (by decide) ?_
      refine sr_end (l' := [(0, vops_0), (3, .pointer (some ⟨gd_3, 0, none⟩)), (4, v442), (5, vforms_5), (6, .int .i64 i_6), (7, str c_7), (16, .int .i64 t_16), (17, .int .i64 t_17)]) (.cons rfl (.cons rfl (.cons rfl (.cons rfl (.cons rfl (.cons rfl (.cons rfl (.cons rfl (.nil _))))))))) ?_
      refine ke_seq ?_
      refine ke_region_q Tryd.mixed (by kernel_rfl) ?_
      refine sq_ev (v := str c_7) (fun w1 hw1 => ev_move rfl) (by decide) ?_
      refine sq_ev (v := vops_0) (fun w1 hw1 => ev_move rfl) (by decide) ?_
      refine sq_ev (v := .int .i64 i_6) (fun w1 hw1 => ev_move rfl) (by decide) ?_
      obtain ⟨y449, hy450, hS⟩ := bind_some' hS
      obtain ⟨b451, o452, cs454, hq455, he453⟩ := ((SlT.of_sl (i := 0) hops_0)).elem (P := Tryd.prog) Tryd.underlying22 Tryd.info39 rfl hy450
      obtain rfl : cs454 = [.int .i64 y449.Kind, str y449.User, str y449.ID, str y449.Secret, .int .i64 y449.Until, .int .i64 y449.Now] := he453.rd
      refine sq_ev (v := .pointer (some ⟨b451, o452, none⟩)) (fun w1 hw1 => hq455 w1 rfl rfl) (by decide) ?_
      refine sq_ev (v := .pointer (some ⟨b451, o452 + 1, none⟩)) (fun w1 hw1 => ev_fieldAddr (i := 1) Tryd.underlying39 rfl Tryd.info9 rfl rfl) (by decide) ?_
      refine sq_ev (v := str y449.User) (fun w1 hw1 => ev_load Tryd.isAgg9 rfl ((he453.mv (Mv.of_below (i := 0) (ρ := ρ444) hw1) (Nat.succ_pos _)).cell 1 _ rfl)) (by decide) ?_
      obtain ⟨hk456, hS⟩ := chk_some hS
      refine sq_ev (v := str (y449.User ++ ([124]))) (fun w1 hw1 => ev_cat rfl rfl hk456) (by decide) ?_
      refine sq_ev (v := vops_0) (fun w1 hw1 => ev_move rfl) (by decide) ?_
      refine sq_ev (v := .int .i64 i_6) (fun w1 hw1 => ev_move rfl) (by decide) ?_
      obtain ⟨y457, hy458, hS⟩ := bind_some' hS
      obtain ⟨b459, o460, cs462, hq463, he461⟩ := ((SlT.of_sl (i := 0) hops_0)).elem (P := Tryd.prog) Tryd.underlying22 Tryd.info39 rfl hy458
      obtain rfl : cs462 = [.int .i64 y457.Kind, str y457.User, str y457.ID, str y457.Secret, .int .i64 y457.Until, .int .i64 y457.Now] := he461.rd
      refine sq_ev (v := .pointer (some ⟨b459, o460, none⟩)) (fun w1 hw1 => hq463 w1 rfl rfl) (by decide) ?_
      refine sq_ev (v := .pointer (some ⟨b459, o460 + 2, none⟩)) (fun w1 hw1 => ev_fieldAddr (i := 2) Tryd.underlying39 rfl Tryd.info9 rfl rfl) (by decide) ?_
      refine sq_ev (v := str y457.ID) (fun w1 hw1 => ev_load Tryd.isAgg9 rfl ((he461.mv (Mv.of_below (i := 0) (ρ := ρ444) hw1) (Nat.succ_pos _)).cell 2 _ rfl)) (by decide) ?_
      obtain ⟨hk464, hS⟩ := chk_some hS
      refine sq_ev (v := str ((y449.User ++ ([124])) ++ y457.ID)) (fun w1 hw1 => ev_cat rfl rfl hk464) (by decide) ?_
      refine sq_ev (v := v442) (fun w1 hw1 => ev_move rfl) (by decide) ?_
      refine sq_ev (v := .int .i64 ((texts_4 ++ ([c_7] : List Str)).length : Int)) (fun w1 hw1 => ev_sllen Tryd.underlying26 rfl (h443.mv (Mv.of_below (i := 6) (ρ := ρ444) hw1) (by decide)).asSl) (by decide) ?_
      obtain ⟨y465, hy466, hS⟩ := bind_some' hS
      refine sq_call (v := str y465) (vs := [str ((y449.User ++ ([124])) ++ y457.ID), .int .i64 ((texts_4 ++ ([c_7] : List Str)).length : Int)]) rfl Tryd.call20 rfl (fun w1 hw1 => (proof_Unique_ok _ ((hg.fr hz hb).below hw1) hy466)) (by decide) ?_
      refine sq_ev (v := .bool (!(c_7 == y465))) (fun w1 hw1 => ev_sne rfl rfl) (by decide) ?_
      refine sq_end (l' := [(0, vops_0), (3, .pointer (some ⟨gd_3, 0, none⟩)), (4, v442), (5, vforms_5), (16, .int .i64 t_16), (17, .int .i64 t_17), (136, .bool (!(c_7 == y465)))]) (.cons rfl (.cons rfl (.cons rfl (.cons rfl (.cons rfl (.cons rfl (.cons rfl (.nil _)))))))) (fun w448 hw447 => ?_)
      have htr470 := Tr.of_below hw447 hb.bd
      replace hops_0 := hops_0.mv htr470.rd
      replace h443 := h443.mv (htr470.mv (i := 6) rfl) (by decide)
      replace hforms_5 := hforms_5.mv (htr470.mv (i := 7) rfl) (by decide)
      replace hB386 := hB386.mv (htr470.mv (i := 100) rfl)
      replace h385 := h385.mv (htr470.mv (i := 101) rfl)
      replace hb := hb.trans htr470
      refine ke_cond (t := !(c_7 == y465)) rfl (fun hc471 => ?_) (fun hc471 => ?_)
      · replace hS := ite_true' hS hc471
        refine ke_seq ?_
        refine ke_region ?_
        refine sr_ev (v := .bool false) (ev_assign rfl) (by decide) ?_
        refine sr_end (l' := [(2, .bool false)]) (.cons rfl (.nil _)) ?_
        cases hS
        exact ke_ret1 Tryd.func4 rfl rfl ⟨_, rfl, rfl, (hb.below (flat1_le _))⟩
      · replace hS := ite_false' hS hc471
        refine ke_skip ?_
        refine ke_inBlock ?_
        have hK := law37_DeviceChallenges_B2_ok hg hbd hz _ hr0 hS hb hops_0 ⟨_, hB386, h385⟩ h443 hforms_5
        exact ke_weaken (l' := [(0, vops_0), (3, .pointer (some ⟨gd_3, 0, none⟩)), (4, v442), (5, vforms_5), (16, .int .i64 t_16), (17, .int .i64 t_17)]) (.cons rfl (.cons rfl (.cons rfl (.cons rfl (.cons rfl (.cons rfl (.nil _))))))) hK
theorem law37_DeviceChallenges_L1_ok {w0 : World} (hg : Gs w0) {ρA : Tags} (hbd : ∀ b, ρA b ≠ 0 → b < w0.heap.size) (hz : Gz (flat1 ρA)) : ∀ (n : Nat), ∀ {r : Bool} {ops_0 : List law37_Op} {od_3 : device_Devices} {texts_4 : List Str} {forms_5 : List Str} {t_16 : Int} {t_17 : Int} {vops_0 : Value} {gd_3 : Nat} {vtexts_4 : Value} {vforms_5 : Value}, law37_DeviceChallenges_L1 n ops_0 od_3 texts_4 forms_5 t_16 t_17 = some r → ∀ {ρ : Tags} {w : World}, (Fr (flat1 ρA) w0 ρ w) → (SlR law37_Op.c (Wb ρ) w vops_0 ops_0) → (device_Devices.O (fun p => 100 + p) ρ w gd_3 od_3) → (OwnT strC 9 ρ 6 w vtexts_4 texts_4) → (OwnT strC 9 ρ 7 w vforms_5 forms_5) → KE Tryd.prog 4 (Ret (fun v w' => v = .bool r ∧ Below w0.heap.size w0 w')) 138 [.code (sub (bodyOf Tryd.f4) [2, 2, 2, 2, 2, 1, 2, 2, 1]), .inLoop (sub (bodyOf Tryd.f4) [2, 2, 2, 2, 2, 1, 2, 2, 1]), .inBlock 0, .code (sub (bodyOf Tryd.f4) [2, 2, 2, 2, 2, 2])] [(0, vops_0), (3, .pointer (some ⟨gd_3, 0, none⟩)), (4, vtexts_4), (5, vforms_5), (16, .int .i64 t_16), (17, .int .i64 t_17)] w := by
  intro n
  induction n with
  | zero => intro r ops_0 od_3 texts_4 forms_5 t_16 t_17 vops_0 gd_3 vtexts_4 vforms_5 hS; cases hS
  | succ n ih =>
    have hr0 : ∀ {r : Bool} {ops_0 : List law37_Op} {od_3 : device_Devices} {texts_4 : List Str} {forms_5 : List Str} {t_16 : Int} {t_17 : Int} {vops_0 : Value} {gd_3 : Nat} {vtexts_4 : Value} {vforms_5 : Value}, law37_DeviceChallenges_L1 n ops_0 od_3 texts_4 forms_5 t_16 t_17 = some r → ∀ {ρ : Tags} {w : World}, (Fr (flat1 ρA) w0 ρ w) → (SlR law37_Op.c (Wb ρ) w vops_0 ops_0) → (device_Devices.O (fun p => 100 + p) ρ w gd_3 od_3) → (OwnT strC 9 ρ 6 w vtexts_4 texts_4) → (OwnT strC 9 ρ 7 w vforms_5 forms_5) → KE Tryd.prog 4 (Ret (fun v w' => v = .bool r ∧ Below w0.heap.size w0 w')) 138 [.inLoop (sub (bodyOf Tryd.f4) [2, 2, 2, 2, 2, 1, 2, 2, 1]), .inBlock 0, .code (sub (bodyOf Tryd.f4) [2, 2, 2, 2, 2, 2])] [(0, vops_0), (3, .pointer (some ⟨gd_3, 0, none⟩)), (4, vtexts_4), (5, vforms_5), (16, .int .i64 t_16), (17, .int .i64 t_17)] w := fun {r} {ops_0} {od_3} {texts_4} {forms_5} {t_16} {t_17} {vops_0} {gd_3} {vtexts_4} {vforms_5} hS {ρ} {w} hb hops_0 hod_3 htexts_4 hforms_5 => ke_inLoop (ih hS hb hops_0 hod_3 htexts_4 hforms_5)
    clear ih
    intro r ops_0 od_3 texts_4 forms_5 t_16 t_17 vops_0 gd_3 vtexts_4 vforms_5 hS ρ w hb hops_0 hod_3 htexts_4 hforms_5
    unfold law37_DeviceChallenges_L1 at hS
    obtain ⟨v25, hB27, h26⟩ := hod_3
    replace hB27 : Blk ρ 100 w gd_3 (.cells #[v25, .int .i64 od_3.given] 62 (0, 0)) := hB27
    replace h26 : MapT device_key.ek device_record.c true ρ 101 w v25 od_3.records := h26
    refine ke_seq ?_
    refine ke_region ?_
    refine sr_ev (v := .bool (decide (t_17 < t_16))) (ev_lt rfl rfl) (by decide) ?_
    refine sr_end (l' := [(0, vops_0), (3, .pointer (some ⟨gd_3, 0, none⟩)), (4, vtexts_4), (5, vforms_5), (16, .int .i64 t_16), (17, .int .i64 t_17), (18, .bool (decide (t_17 < t_16)))]) (.cons rfl (.cons rfl (.cons rfl (.cons rfl (.cons rfl (.cons rfl (.cons rfl (.nil _)))))))) ?_
    refine ke_seq ?_
    refine ke_cond (t := decide (t_17 < t_16)) rfl (fun hc28 => ?_) (fun hc28 => ?_)
    · replace hS := ite_true' hS hc28
      refine ke_skip ?_
      refine ke_seq ?_
      refine ke_block ?_
      refine ke_seq ?_
      refine ke_region ?_
      refine sr_ev (v := .int .i64 t_17) (ev_move rfl) (by decide) ?_
      refine sr_ev (v := .int .i64 t_17) (ev_assign rfl) (by decide) ?_
      refine sr_end (l' := [(0, vops_0), (3, .pointer (some ⟨gd_3, 0, none⟩)), (4, vtexts_4), (5, vforms_5), (6, .int .i64 t_17), (16, .int .i64 t_16), (17, .int .i64 t_17)]) (.cons rfl (.cons rfl (.cons rfl (.cons rfl (.cons rfl (.cons rfl (.cons rfl (.nil _)))))))) ?_
      refine ke_seq ?_
      refine ke_region_j (ρ := ρ) (fun t => ([100, 101] : List Nat).contains t) 22 Tryd.mixed (fun w30 hw29 => ?_)
      have htr31 := Tr.of_below hw29 hb.bd
      replace hops_0 := hops_0.mv htr31.rd
      replace htexts_4 := htexts_4.mv (htr31.mv (i := 6) rfl) (by decide)
      replace hforms_5 := hforms_5.mv (htr31.mv (i := 7) rfl) (by decide)
      replace hB27 := hB27.mv (htr31.mv (i := 100) rfl)
      replace h26 := h26.mv (htr31.mv (i := 101) rfl)
      replace hb := hb.trans htr31
      refine dj_H 0 (v := .pointer (some ⟨gd_3, 0, none⟩)) (by kernel_rfl) (by kernel_rfl) rfl (fun _ _ _ h => h) (sj_refl hb.bd rfl rfl) (fun w1 ρ1 hw1 => ev_move rfl) (by decide) ?_
      refine dj_H 1 (v := vops_0) (by kernel_rfl) (by kernel_rfl) rfl (fun _ _ _ h => h) (sj_refl hb.bd rfl rfl) (fun w1 ρ1 hw1 => ev_move rfl) (by decide) ?_
      refine dj_H 2 (v := .int .i64 t_17) (by kernel_rfl) (by kernel_rfl) rfl (fun _ _ _ h => h) (sj_refl hb.bd rfl rfl) (fun w1 ρ1 hw1 => ev_move rfl) (by decide) ?_
      obtain ⟨y95, hy96, hS⟩ := bind_some' hS
      obtain ⟨b97, o98, cs100, hq101, he99⟩ := ((SlT.of_sl (i := 0) hops_0)).elem (P := Tryd.prog) Tryd.underlying22 Tryd.info39 rfl hy96
      obtain rfl : cs100 = [.int .i64 y95.Kind, str y95.User, str y95.ID, str y95.Secret, .int .i64 y95.Until, .int .i64 y95.Now] := he99.rd
      refine dj_H 3 (v := .pointer (some ⟨b97, o98, none⟩)) (by kernel_rfl) (by kernel_rfl) rfl (fun _ _ _ h => h) (sj_refl hb.bd rfl rfl) (fun w1 ρ1 hw1 => hq101 w1 rfl rfl) (by decide) ?_
      refine dj_H 4 (v := .pointer (some ⟨b97, o98 + 1, none⟩)) (by kernel_rfl) (by kernel_rfl) rfl (fun _ _ _ h => h) (sj_refl hb.bd rfl rfl) (fun w1 ρ1 hw1 => ev_fieldAddr (i := 1) Tryd.underlying39 rfl Tryd.info9 rfl rfl) (by decide) ?_
      refine dj_H 5 (v := str y95.User) (by kernel_rfl) (by kernel_rfl) rfl (fun _ _ _ h => h) (sj_refl hb.bd rfl rfl) (fun w1 ρ1 hw1 => ev_load Tryd.isAgg9 rfl ((he99.mv (hw1.mv (i := 0) rfl) (Nat.succ_pos _)).cell 1 _ rfl)) (by decide) ?_
      refine dj_H 6 (v := vops_0) (by kernel_rfl) (by kernel_rfl) rfl (fun _ _ _ h => h) (sj_refl hb.bd rfl rfl) (fun w1 ρ1 hw1 => ev_move rfl) (by decide) ?_
      refine dj_H 7 (v := .int .i64 t_17) (by kernel_rfl) (by kernel_rfl) rfl (fun _ _ _ h => h) (sj_refl hb.bd rfl rfl) (fun w1 ρ1 hw1 => ev_move rfl) (by decide) ?_
      obtain ⟨y102, hy103, hS⟩ := bind_some' hS
      obtain ⟨b104, o105, cs107, hq108, he106⟩ := ((SlT.of_sl (i := 0) hops_0)).elem (P := Tryd.prog) Tryd.underlying22 Tryd.info39 rfl hy103
      obtain rfl : cs107 = [.int .i64 y102.Kind, str y102.User, str y102.ID, str y102.Secret, .int .i64 y102.Until, .int .i64 y102.Now] := he106.rd
      refine dj_H 8 (v := .pointer (some ⟨b104, o105, none⟩)) (by kernel_rfl) (by kernel_rfl) rfl (fun _ _ _ h => h) (sj_refl hb.bd rfl rfl) (fun w1 ρ1 hw1 => hq108 w1 rfl rfl) (by decide) ?_
      refine dj_H 9 (v := .pointer (some ⟨b104, o105 + 2, none⟩)) (by kernel_rfl) (by kernel_rfl) rfl (fun _ _ _ h => h) (sj_refl hb.bd rfl rfl) (fun w1 ρ1 hw1 => ev_fieldAddr (i := 2) Tryd.underlying39 rfl Tryd.info9 rfl rfl) (by decide) ?_
      refine dj_H 10 (v := str y102.ID) (by kernel_rfl) (by kernel_rfl) rfl (fun _ _ _ h => h) (sj_refl hb.bd rfl rfl) (fun w1 ρ1 hw1 => ev_load Tryd.isAgg9 rfl ((he106.mv (hw1.mv (i := 0) rfl) (Nat.succ_pos _)).cell 2 _ rfl)) (by decide) ?_
      refine dj_H 11 (v := vops_0) (by kernel_rfl) (by kernel_rfl) rfl (fun _ _ _ h => h) (sj_refl hb.bd rfl rfl) (fun w1 ρ1 hw1 => ev_move rfl) (by decide) ?_
      refine dj_H 12 (v := .int .i64 t_17) (by kernel_rfl) (by kernel_rfl) rfl (fun _ _ _ h => h) (sj_refl hb.bd rfl rfl) (fun w1 ρ1 hw1 => ev_move rfl) (by decide) ?_
      obtain ⟨y109, hy110, hS⟩ := bind_some' hS
      obtain ⟨b111, o112, cs114, hq115, he113⟩ := ((SlT.of_sl (i := 0) hops_0)).elem (P := Tryd.prog) Tryd.underlying22 Tryd.info39 rfl hy110
      obtain rfl : cs114 = [.int .i64 y109.Kind, str y109.User, str y109.ID, str y109.Secret, .int .i64 y109.Until, .int .i64 y109.Now] := he113.rd
      refine dj_H 13 (v := .pointer (some ⟨b111, o112, none⟩)) (by kernel_rfl) (by kernel_rfl) rfl (fun _ _ _ h => h) (sj_refl hb.bd rfl rfl) (fun w1 ρ1 hw1 => hq115 w1 rfl rfl) (by decide) ?_
      refine dj_H 14 (v := .pointer (some ⟨b111, o112 + 5, none⟩)) (by kernel_rfl) (by kernel_rfl) rfl (fun _ _ _ h => h) (sj_refl hb.bd rfl rfl) (fun w1 ρ1 hw1 => ev_fieldAddr (i := 5) Tryd.underlying39 rfl Tryd.info3 rfl rfl) (by decide) ?_
      refine dj_H 15 (v := .int .i64 y109.Now) (by kernel_rfl) (by kernel_rfl) rfl (fun _ _ _ h => h) (sj_refl hb.bd rfl rfl) (fun w1 ρ1 hw1 => ev_load Tryd.isAgg3 rfl ((he113.mv (hw1.mv (i := 0) rfl) (Nat.succ_pos _)).cell 5 _ rfl)) (by decide) ?_
      refine dj_E 16 (by kernel_rfl) rfl ?_
      have jt116 : Tr ρ w30 (fun t => ([100, 101] : List Nat).contains t) ρ w30 := (Tr.refl hb.bd).weak (fun _ _ => rfl) rfl rfl
      obtain ⟨y117, hy118, hS⟩ := bind_some' hS
      refine sr_call (vs := [.pointer (some ⟨gd_3, 0, none⟩), str y95.User, str y102.ID, .int .i64 y109.Now]) rfl Tryd.call12 rfl (device_Devices_Challenge_ok _ (hg.fr hz hb) (ρA := ρ) hb.bd (hz.fr hg hb) (o := 100) (by decide) (⟨_, hB27, h26⟩ : device_Devices.O (fun p => 100 + p) ρ w30 gd_3 od_3) hy118) (by decide) ?_
      rintro _ w119 ⟨ρ125, rfl, ⟨v122, hB124, h123⟩, htr121⟩
      replace hops_0 := hops_0.mv htr121.rd
      replace htexts_4 := htexts_4.mv (htr121.mv (i := 6) rfl) (by decide)
      replace hforms_5 := hforms_5.mv (htr121.mv (i := 7) rfl) (by decide)
      replace hb := hb.trans htr121
      replace jt116 := (jt116.trans htr121).weak (J' := (fun t => ([100, 101] : List Nat).contains t)) (by intro t h; simp [rng] at h ⊢ <;> omega) rfl rfl
      replace hB124 : Blk ρ125 100 w119 gd_3 (.cells #[v122, .int .i64 y117.2.2.given] 62 (0, 0)) := hB124
      replace h123 : MapT device_key.ek device_record.c true ρ125 101 w119 v122 y117.2.2.records := h123
      refine dj_next (l' := [(0, vops_0), (3, .pointer (some ⟨gd_3, 0, none⟩)), (4, vtexts_4), (5, vforms_5), (6, .int .i64 t_17), (16, .int .i64 t_16), (17, .int .i64 t_17), (37, .tuple #[str y117.1, .int .i64 y117.2.1])]) rfl (.cons rfl (.cons rfl (.cons rfl (.cons rfl (.cons rfl (.cons rfl (.cons rfl (.cons rfl (.nil _))))))))) jt116 (by intro t h; simp [rng] at h ⊢ <;> omega) rfl rfl ?_
      refine dj_H 17 (v := .tuple #[str y117.1, .int .i64 y117.2.1]) (by kernel_rfl) (by kernel_rfl) rfl (fun _ _ _ h => h) (sj_refl hb.bd rfl rfl) (fun w1 ρ1 hw1 => ev_move rfl) (by decide) ?_
      refine dj_H 18 (v := str y117.1) (by kernel_rfl) (by kernel_rfl) rfl (fun _ _ _ h => h) (sj_refl hb.bd rfl rfl) (fun w1 ρ1 hw1 => ev_extract rfl rfl) (by decide) ?_
      refine dj_H 19 (v := .int .i64 y117.2.1) (by kernel_rfl) (by kernel_rfl) rfl (fun _ _ _ h => h) (sj_refl hb.bd rfl rfl) (fun w1 ρ1 hw1 => ev_extract rfl rfl) (by decide) ?_
      refine dj_H 20 (v := str y117.1) (by kernel_rfl) (by kernel_rfl) rfl (fun _ _ _ h => h) (sj_refl hb.bd rfl rfl) (fun w1 ρ1 hw1 => ev_assign rfl) (by decide) ?_
      refine dj_H 21 (v := .int .i64 y117.2.1) (by kernel_rfl) (by kernel_rfl) rfl (fun _ _ _ h => h) (sj_refl hb.bd rfl rfl) (fun w1 ρ1 hw1 => ev_assign rfl) (by decide) ?_
      refine dj_done rfl (by kernel_rfl) ?_
      refine ke_weaken (l' := [(0, vops_0), (3, .pointer (some ⟨gd_3, 0, none⟩)), (4, vtexts_4), (5, vforms_5), (6, .int .i64 t_17), (7, str y117.1), (8, .int .i64 y117.2.1), (16, .int .i64 t_16), (17, .int .i64 t_17)]) (.cons rfl (.cons rfl (.cons rfl (.cons rfl (.cons rfl (.cons rfl (.cons rfl (.cons rfl (.cons rfl (.nil _)))))))))) ?_
      refine ke_seq ?_
      refine ke_seq ?_
      refine ke_region ?_
      refine sr_ev (v := .int .i64 y117.2.1) (ev_move rfl) (by decide) ?_
      refine sr_ev (v := .bool (y117.2.1 != 0)) (ev_ne rfl rfl) (by decide) ?_
      refine sr_end (l' := [(0, vops_0), (3, .pointer (some ⟨gd_3, 0, none⟩)), (4, vtexts_4), (5, vforms_5), (6, .int .i64 t_17), (7, str y117.1), (16, .int .i64 t_16), (17, .int .i64 t_17), (41, .bool (y117.2.1 != 0))]) (.cons rfl (.cons rfl (.cons rfl (.cons rfl (.cons rfl (.cons rfl (.cons rfl (.cons rfl (.cons rfl (.nil _)))))))))) ?_
      refine ke_cond (t := y117.2.1 != 0) rfl (fun hc126 => ?_) (fun hc126 => ?_)
      · replace hS := ite_true' hS hc126
        refine ke_seq ?_
        refine ke_region_j (ρ := ρ125) (fun t => ([100, 101] : List Nat).contains t) 27 Tryd.mixed (fun w128 hw127 => ?_)
        have htr129 := Tr.of_below hw127 hb.bd
        replace hops_0 := hops_0.mv htr129.rd
        replace htexts_4 := htexts_4.mv (htr129.mv (i := 6) rfl) (by decide)
        replace hforms_5 := hforms_5.mv (htr129.mv (i := 7) rfl) (by decide)
        replace hB124 := hB124.mv (htr129.mv (i := 100) rfl)
        replace h123 := h123.mv (htr129.mv (i := 101) rfl)
        replace hb := hb.trans htr129
        refine dj_H 0 (v := .pointer (some ⟨gd_3, 0, none⟩)) (by kernel_rfl) (by kernel_rfl) rfl (fun _ _ _ h => h) (sj_refl hb.bd rfl rfl) (fun w1 ρ1 hw1 => ev_move rfl) (by decide) ?_
        refine dj_H 1 (v := vops_0) (by kernel_rfl) (by kernel_rfl) rfl (fun _ _ _ h => h) (sj_refl hb.bd rfl rfl) (fun w1 ρ1 hw1 => ev_move rfl) (by decide) ?_
        refine dj_H 2 (v := .int .i64 t_17) (by kernel_rfl) (by kernel_rfl) rfl (fun _ _ _ h => h) (sj_refl hb.bd rfl rfl) (fun w1 ρ1 hw1 => ev_move rfl) (by decide) ?_
        obtain ⟨y221, hy222, hS⟩ := bind_some' hS
        obtain ⟨b223, o224, cs226, hq227, he225⟩ := ((SlT.of_sl (i := 0) hops_0)).elem (P := Tryd.prog) Tryd.underlying22 Tryd.info39 rfl hy222
        obtain rfl : cs226 = [.int .i64 y221.Kind, str y221.User, str y221.ID, str y221.Secret, .int .i64 y221.Until, .int .i64 y221.Now] := he225.rd
        refine dj_H 3 (v := .pointer (some ⟨b223, o224, none⟩)) (by kernel_rfl) (by kernel_rfl) rfl (fun _ _ _ h => h) (sj_refl hb.bd rfl rfl) (fun w1 ρ1 hw1 => hq227 w1 rfl rfl) (by decide) ?_
        refine dj_H 4 (v := .pointer (some ⟨b223, o224 + 1, none⟩)) (by kernel_rfl) (by kernel_rfl) rfl (fun _ _ _ h => h) (sj_refl hb.bd rfl rfl) (fun w1 ρ1 hw1 => ev_fieldAddr (i := 1) Tryd.underlying39 rfl Tryd.info9 rfl rfl) (by decide) ?_
        refine dj_H 5 (v := str y221.User) (by kernel_rfl) (by kernel_rfl) rfl (fun _ _ _ h => h) (sj_refl hb.bd rfl rfl) (fun w1 ρ1 hw1 => ev_load Tryd.isAgg9 rfl ((he225.mv (hw1.mv (i := 0) rfl) (Nat.succ_pos _)).cell 1 _ rfl)) (by decide) ?_
        refine dj_H 6 (v := vops_0) (by kernel_rfl) (by kernel_rfl) rfl (fun _ _ _ h => h) (sj_refl hb.bd rfl rfl) (fun w1 ρ1 hw1 => ev_move rfl) (by decide) ?_
        refine dj_H 7 (v := .int .i64 t_17) (by kernel_rfl) (by kernel_rfl) rfl (fun _ _ _ h => h) (sj_refl hb.bd rfl rfl) (fun w1 ρ1 hw1 => ev_move rfl) (by decide) ?_
        obtain ⟨y228, hy229, hS⟩ := bind_some' hS
        obtain ⟨b230, o231, cs233, hq234, he232⟩ := ((SlT.of_sl (i := 0) hops_0)).elem (P := Tryd.prog) Tryd.underlying22 Tryd.info39 rfl hy229
        obtain rfl : cs233 = [.int .i64 y228.Kind, str y228.User, str y228.ID, str y228.Secret, .int .i64 y228.Until, .int .i64 y228.Now] := he232.rd
        refine dj_H 8 (v := .pointer (some ⟨b230, o231, none⟩)) (by kernel_rfl) (by kernel_rfl) rfl (fun _ _ _ h => h) (sj_refl hb.bd rfl rfl) (fun w1 ρ1 hw1 => hq234 w1 rfl rfl) (by decide) ?_
        refine dj_H 9 (v := .pointer (some ⟨b230, o231 + 2, none⟩)) (by kernel_rfl) (by kernel_rfl) rfl (fun _ _ _ h => h) (sj_refl hb.bd rfl rfl) (fun w1 ρ1 hw1 => ev_fieldAddr (i := 2) Tryd.underlying39 rfl Tryd.info9 rfl rfl) (by decide) ?_
        refine dj_H 10 (v := str y228.ID) (by kernel_rfl) (by kernel_rfl) rfl (fun _ _ _ h => h) (sj_refl hb.bd rfl rfl) (fun w1 ρ1 hw1 => ev_load Tryd.isAgg9 rfl ((he232.mv (hw1.mv (i := 0) rfl) (Nat.succ_pos _)).cell 2 _ rfl)) (by decide) ?_
        refine dj_H 11 (v := vops_0) (by kernel_rfl) (by kernel_rfl) rfl (fun _ _ _ h => h) (sj_refl hb.bd rfl rfl) (fun w1 ρ1 hw1 => ev_move rfl) (by decide) ?_
        refine dj_H 12 (v := .int .i64 t_17) (by kernel_rfl) (by kernel_rfl) rfl (fun _ _ _ h => h) (sj_refl hb.bd rfl rfl) (fun w1 ρ1 hw1 => ev_move rfl) (by decide) ?_
        obtain ⟨y235, hy236, hS⟩ := bind_some' hS
        obtain ⟨b237, o238, cs240, hq241, he239⟩ := ((SlT.of_sl (i := 0) hops_0)).elem (P := Tryd.prog) Tryd.underlying22 Tryd.info39 rfl hy236
        obtain rfl : cs240 = [.int .i64 y235.Kind, str y235.User, str y235.ID, str y235.Secret, .int .i64 y235.Until, .int .i64 y235.Now] := he239.rd
        refine dj_H 13 (v := .pointer (some ⟨b237, o238, none⟩)) (by kernel_rfl) (by kernel_rfl) rfl (fun _ _ _ h => h) (sj_refl hb.bd rfl rfl) (fun w1 ρ1 hw1 => hq241 w1 rfl rfl) (by decide) ?_
        refine dj_H 14 (v := .pointer (some ⟨b237, o238 + 3, none⟩)) (by kernel_rfl) (by kernel_rfl) rfl (fun _ _ _ h => h) (sj_refl hb.bd rfl rfl) (fun w1 ρ1 hw1 => ev_fieldAddr (i := 3) Tryd.underlying39 rfl Tryd.info9 rfl rfl) (by decide) ?_
        refine dj_H 15 (v := str y235.Secret) (by kernel_rfl) (by kernel_rfl) rfl (fun _ _ _ h => h) (sj_refl hb.bd rfl rfl) (fun w1 ρ1 hw1 => ev_load Tryd.isAgg9 rfl ((he239.mv (hw1.mv (i := 0) rfl) (Nat.succ_pos _)).cell 3 _ rfl)) (by decide) ?_
        refine dj_H 16 (v := vops_0) (by kernel_rfl) (by kernel_rfl) rfl (fun _ _ _ h => h) (sj_refl hb.bd rfl rfl) (fun w1 ρ1 hw1 => ev_move rfl) (by decide) ?_
        refine dj_H 17 (v := .int .i64 t_17) (by kernel_rfl) (by kernel_rfl) rfl (fun _ _ _ h => h) (sj_refl hb.bd rfl rfl) (fun w1 ρ1 hw1 => ev_move rfl) (by decide) ?_
        obtain ⟨y242, hy243, hS⟩ := bind_some' hS
        obtain ⟨b244, o245, cs247, hq248, he246⟩ := ((SlT.of_sl (i := 0) hops_0)).elem (P := Tryd.prog) Tryd.underlying22 Tryd.info39 rfl hy243
        obtain rfl : cs247 = [.int .i64 y242.Kind, str y242.User, str y242.ID, str y242.Secret, .int .i64 y242.Until, .int .i64 y242.Now] := he246.rd
        refine dj_H 18 (v := .pointer (some ⟨b244, o245, none⟩)) (by kernel_rfl) (by kernel_rfl) rfl (fun _ _ _ h => h) (sj_refl hb.bd rfl rfl) (fun w1 ρ1 hw1 => hq248 w1 rfl rfl) (by decide) ?_
        refine dj_H 19 (v := .pointer (some ⟨b244, o245 + 4, none⟩)) (by kernel_rfl) (by kernel_rfl) rfl (fun _ _ _ h => h) (sj_refl hb.bd rfl rfl) (fun w1 ρ1 hw1 => ev_fieldAddr (i := 4) Tryd.underlying39 rfl Tryd.info3 rfl rfl) (by decide) ?_
        refine dj_H 20 (v := .int .i64 y242.Until) (by kernel_rfl) (by kernel_rfl) rfl (fun _ _ _ h => h) (sj_refl hb.bd rfl rfl) (fun w1 ρ1 hw1 => ev_load Tryd.isAgg3 rfl ((he246.mv (hw1.mv (i := 0) rfl) (Nat.succ_pos _)).cell 4 _ rfl)) (by decide) ?_
        refine dj_H 21 (v := vops_0) (by kernel_rfl) (by kernel_rfl) rfl (fun _ _ _ h => h) (sj_refl hb.bd rfl rfl) (fun w1 ρ1 hw1 => ev_move rfl) (by decide) ?_
        refine dj_H 22 (v := .int .i64 t_17) (by kernel_rfl) (by kernel_rfl) rfl (fun _ _ _ h => h) (sj_refl hb.bd rfl rfl) (fun w1 ρ1 hw1 => ev_move rfl) (by decide) ?_
        obtain ⟨y249, hy250, hS⟩ := bind_some' hS
        obtain ⟨b251, o252, cs254, hq255, he253⟩ := ((SlT.of_sl (i := 0) hops_0)).elem (P := Tryd.prog) Tryd.underlying22 Tryd.info39 rfl hy250
        obtain rfl : cs254 = [.int .i64 y249.Kind, str y249.User, str y249.ID, str y249.Secret, .int .i64 y249.Until, .int .i64 y249.Now] := he253.rd
        refine dj_H 23 (v := .pointer (some ⟨b251, o252, none⟩)) (by kernel_rfl) (by kernel_rfl) rfl (fun _ _ _ h => h) (sj_refl hb.bd rfl rfl) (fun w1 ρ1 hw1 => hq255 w1 rfl rfl) (by decide) ?_
        refine dj_H 24 (v := .pointer (some ⟨b251, o252 + 5, none⟩)) (by kernel_rfl) (by kernel_rfl) rfl (fun _ _ _ h => h) (sj_refl hb.bd rfl rfl) (fun w1 ρ1 hw1 => ev_fieldAddr (i := 5) Tryd.underlying39 rfl Tryd.info3 rfl rfl) (by decide) ?_
        refine dj_H 25 (v := .int .i64 y249.Now) (by kernel_rfl) (by kernel_rfl) rfl (fun _ _ _ h => h) (sj_refl hb.bd rfl rfl) (fun w1 ρ1 hw1 => ev_load Tryd.isAgg3 rfl ((he253.mv (hw1.mv (i := 0) rfl) (Nat.succ_pos _)).cell 5 _ rfl)) (by decide) ?_
        refine dj_E 26 (by kernel_rfl) rfl ?_
        have jt256 : Tr ρ125 w128 (fun t => ([100, 101] : List Nat).contains t) ρ125 w128 := (Tr.refl hb.bd).weak (fun _ _ => rfl) rfl rfl
        obtain ⟨y257, hy258, hS⟩ := bind_some' hS
        refine sr_call (vs := [.pointer (some ⟨gd_3, 0, none⟩), str y221.User, str y228.ID, str y235.Secret, .int .i64 y242.Until, .int .i64 y249.Now]) rfl Tryd.call17 rfl (device_Devices_Trust_ok _ (hg.fr hz hb) (ρA := ρ125) hb.bd (hz.fr hg hb) (o := 100) (by decide) (⟨_, hB124, h123⟩ : device_Devices.O (fun p => 100 + p) ρ125 w128 gd_3 y117.2.2) hy258) (by decide) ?_
        rintro _ w259 ⟨ρ265, rfl, ⟨v262, hB264, h263⟩, htr261⟩
        replace hops_0 := hops_0.mv htr261.rd
        replace htexts_4 := htexts_4.mv (htr261.mv (i := 6) rfl) (by decide)
        replace hforms_5 := hforms_5.mv (htr261.mv (i := 7) rfl) (by decide)
        replace hb := hb.trans htr261
        replace jt256 := (jt256.trans htr261).weak (J' := (fun t => ([100, 101] : List Nat).contains t)) (by intro t h; simp [rng] at h ⊢ <;> omega) rfl rfl
        replace hB264 : Blk ρ265 100 w259 gd_3 (.cells #[v262, .int .i64 y257.2.given] 62 (0, 0)) := hB264
        replace h263 : MapT device_key.ek device_record.c true ρ265 101 w259 v262 y257.2.records := h263
        refine dj_next (l' := [(0, vops_0), (3, .pointer (some ⟨gd_3, 0, none⟩)), (4, vtexts_4), (5, vforms_5), (16, .int .i64 t_16), (17, .int .i64 t_17)]) rfl (.cons rfl (.cons rfl (.cons rfl (.cons rfl (.cons rfl (.cons rfl (.nil _))))))) jt256 (by intro t h; simp [rng] at h ⊢ <;> omega) rfl rfl ?_
        refine dj_done rfl (by kernel_rfl) ?_
        refine ke_weaken (l' := [(0, vops_0), (3, .pointer (some ⟨gd_3, 0, none⟩)), (4, vtexts_4), (5, vforms_5), (16, .int .i64 t_16), (17, .int .i64 t_17)]) (.cons rfl (.cons rfl (.cons rfl (.cons rfl (.cons rfl (.cons rfl (.nil _))))))) ?_
        refine ke_exit (k' := _) rfl ?_
        have hK := law37_DeviceChallenges_B2_ok hg hbd hz _ hr0 hS hb hops_0 ⟨_, hB264, h263⟩ htexts_4 hforms_5
        exact ke_weaken (l' := [(0, vops_0), (3, .pointer (some ⟨gd_3, 0, none⟩)), (4, vtexts_4), (5, vforms_5), (16, .int .i64 t_16), (17, .int .i64 t_17)]) (.cons rfl (.cons rfl (.cons rfl (.cons rfl (.cons rfl (.cons rfl (.nil _))))))) hK
      · replace hS := ite_false' hS hc126
        refine ke_skip ?_
        refine ke_seq ?_
        refine ke_region_j (ρ := ρ125) (fun t => ([7] : List Nat).contains t) 22 Tryd.mixed (fun w270 hw269 => ?_)
        have htr271 := Tr.of_below hw269 hb.bd
        replace hops_0 := hops_0.mv htr271.rd
        replace htexts_4 := htexts_4.mv (htr271.mv (i := 6) rfl) (by decide)
        replace hforms_5 := hforms_5.mv (htr271.mv (i := 7) rfl) (by decide)
        replace hB124 := hB124.mv (htr271.mv (i := 100) rfl)
        replace h123 := h123.mv (htr271.mv (i := 101) rfl)
        replace hb := hb.trans htr271
        refine dj_H 0 (v := vforms_5) (by kernel_rfl) (by kernel_rfl) rfl (fun _ _ _ h => h) (sj_refl hb.bd rfl rfl) (fun w1 ρ1 hw1 => ev_move rfl) (by decide) ?_
        refine dj_H 1 (v := vtexts_4) (by kernel_rfl) (by kernel_rfl) rfl (fun _ _ _ h => h) (sj_refl hb.bd rfl rfl) (fun w1 ρ1 hw1 => ev_move rfl) (by decide) ?_
        refine dj_H 2 (v := .int .i64 (texts_4.length : Int)) (by kernel_rfl) (by kernel_rfl) rfl (fun _ _ _ h => h) (sj_refl hb.bd rfl rfl) (fun w1 ρ1 hw1 => ev_sllen Tryd.underlying26 rfl (htexts_4.mv (hw1.mv (i := 6) rfl) (by decide)).asSl) (by decide) ?_
        refine dj_H 3 (v := .int .i64 (IntKind.i64.wrap ((texts_4.length : Int) + 1))) (by kernel_rfl) (by kernel_rfl) rfl (fun _ _ _ h => h) (sj_refl hb.bd rfl rfl) (fun w1 ρ1 hw1 => ev_add rfl rfl) (by decide) ?_
        refine dj_H 6 (v := vops_0) (by kernel_rfl) (by kernel_rfl) rfl (fun _ _ _ h => h) (sj_refl hb.bd rfl rfl) (fun w1 ρ1 hw1 => ev_move rfl) (by decide) ?_
        refine dj_H 7 (v := .int .i64 t_17) (by kernel_rfl) (by kernel_rfl) rfl (fun _ _ _ h => h) (sj_refl hb.bd rfl rfl) (fun w1 ρ1 hw1 => ev_move rfl) (by decide) ?_
        obtain ⟨y347, hy348, hS⟩ := bind_some' hS
        obtain ⟨b349, o350, cs352, hq353, he351⟩ := ((SlT.of_sl (i := 0) hops_0)).elem (P := Tryd.prog) Tryd.underlying22 Tryd.info39 rfl hy348
        obtain rfl : cs352 = [.int .i64 y347.Kind, str y347.User, str y347.ID, str y347.Secret, .int .i64 y347.Until, .int .i64 y347.Now] := he351.rd
        refine dj_H 8 (v := .pointer (some ⟨b349, o350, none⟩)) (by kernel_rfl) (by kernel_rfl) rfl (fun _ _ _ h => h) (sj_refl hb.bd rfl rfl) (fun w1 ρ1 hw1 => hq353 w1 rfl rfl) (by decide) ?_
        refine dj_H 9 (v := .pointer (some ⟨b349, o350 + 1, none⟩)) (by kernel_rfl) (by kernel_rfl) rfl (fun _ _ _ h => h) (sj_refl hb.bd rfl rfl) (fun w1 ρ1 hw1 => ev_fieldAddr (i := 1) Tryd.underlying39 rfl Tryd.info9 rfl rfl) (by decide) ?_
        refine dj_H 10 (v := str y347.User) (by kernel_rfl) (by kernel_rfl) rfl (fun _ _ _ h => h) (sj_refl hb.bd rfl rfl) (fun w1 ρ1 hw1 => ev_load Tryd.isAgg9 rfl ((he351.mv (hw1.mv (i := 0) rfl) (Nat.succ_pos _)).cell 1 _ rfl)) (by decide) ?_
        refine dj_H 13 (v := vops_0) (by kernel_rfl) (by kernel_rfl) rfl (fun _ _ _ h => h) (sj_refl hb.bd rfl rfl) (fun w1 ρ1 hw1 => ev_move rfl) (by decide) ?_
        refine dj_H 14 (v := .int .i64 t_17) (by kernel_rfl) (by kernel_rfl) rfl (fun _ _ _ h => h) (sj_refl hb.bd rfl rfl) (fun w1 ρ1 hw1 => ev_move rfl) (by decide) ?_
        obtain ⟨y354, hy355, hS⟩ := bind_some' hS
        obtain ⟨b356, o357, cs359, hq360, he358⟩ := ((SlT.of_sl (i := 0) hops_0)).elem (P := Tryd.prog) Tryd.underlying22 Tryd.info39 rfl hy355
        obtain rfl : cs359 = [.int .i64 y354.Kind, str y354.User, str y354.ID, str y354.Secret, .int .i64 y354.Until, .int .i64 y354.Now] := he358.rd
        refine dj_H 15 (v := .pointer (some ⟨b356, o357, none⟩)) (by kernel_rfl) (by kernel_rfl) rfl (fun _ _ _ h => h) (sj_refl hb.bd rfl rfl) (fun w1 ρ1 hw1 => hq360 w1 rfl rfl) (by decide) ?_
        refine dj_H 16 (v := .pointer (some ⟨b356, o357 + 2, none⟩)) (by kernel_rfl) (by kernel_rfl) rfl (fun _ _ _ h => h) (sj_refl hb.bd rfl rfl) (fun w1 ρ1 hw1 => ev_fieldAddr (i := 2) Tryd.underlying39 rfl Tryd.info9 rfl rfl) (by decide) ?_
        refine dj_H 17 (v := str y354.ID) (by kernel_rfl) (by kernel_rfl) rfl (fun _ _ _ h => h) (sj_refl hb.bd rfl rfl) (fun w1 ρ1 hw1 => ev_load Tryd.isAgg9 rfl ((he358.mv (hw1.mv (i := 0) rfl) (Nat.succ_pos _)).cell 2 _ rfl)) (by decide) ?_
        refine dj_E 4 (by kernel_rfl) rfl ?_
        have jt361 : Tr ρ125 w270 (fun t => ([7] : List Nat).contains t) ρ125 w270 := (Tr.refl hb.bd).weak (fun _ _ => rfl) rfl rfl
        obtain ⟨y362, hy363, hS⟩ := bind_some' hS
        refine sr_call (vs := [.int .i64 (IntKind.i64.wrap ((texts_4.length : Int) + 1))]) rfl Tryd.call18 rfl (ref02_Int_ok _ (hg.fr hz hb) hy363) (by decide) ?_
        rintro _ w364 ⟨rfl, hbw365⟩
        have htr366 := Tr.of_below hbw365 hb.bd
        replace hops_0 := hops_0.mv htr366.rd
        replace htexts_4 := htexts_4.mv (htr366.mv (i := 6) rfl) (by decide)
        replace hforms_5 := hforms_5.mv (htr366.mv (i := 7) rfl) (by decide)
        replace hB124 := hB124.mv (htr366.mv (i := 100) rfl)
        replace h123 := h123.mv (htr366.mv (i := 101) rfl)
        replace hb := hb.trans htr366
        replace jt361 := (jt361.trans htr366).weak (J' := (fun t => ([7] : List Nat).contains t)) (by intro t h; simp [rng] at h ⊢ <;> omega) rfl rfl
        refine dj_next (l' := [(0, vops_0), (3, .pointer (some ⟨gd_3, 0, none⟩)), (4, vtexts_4), (5, vforms_5), (6, .int .i64 t_17), (7, str y117.1), (16, .int .i64 t_16), (17, .int .i64 t_17), (69, vforms_5), (73, str y362), (79, str y347.User), (86, str y354.ID)]) rfl (.cons rfl (.cons rfl (.cons rfl (.cons rfl (.cons rfl (.cons rfl (.cons rfl (.cons rfl (.cons rfl (.cons rfl (.cons rfl (.cons rfl (.nil _))))))))))))) jt361 (by intro t h; simp [rng] at h ⊢ <;> omega) rfl rfl ?_
        obtain ⟨hk367, hS⟩ := chk_some hS
        refine dj_H 5 (v := str (y362 ++ ([58]))) (by kernel_rfl) (by kernel_rfl) rfl (fun _ _ _ h => h) (sj_refl hb.bd rfl rfl) (fun w1 ρ1 hw1 => ev_cat rfl rfl hk367) (by decide) ?_
        obtain ⟨hk368, hS⟩ := chk_some hS
        refine dj_H 11 (v := str ((y362 ++ ([58])) ++ y347.User)) (by kernel_rfl) (by kernel_rfl) rfl (fun _ _ _ h => h) (sj_refl hb.bd rfl rfl) (fun w1 ρ1 hw1 => ev_cat rfl rfl hk368) (by decide) ?_
        obtain ⟨hk369, hS⟩ := chk_some hS
        refine dj_H 12 (v := str (((y362 ++ ([58])) ++ y347.User) ++ ([124]))) (by kernel_rfl) (by kernel_rfl) rfl (fun _ _ _ h => h) (sj_refl hb.bd rfl rfl) (fun w1 ρ1 hw1 => ev_cat rfl rfl hk369) (by decide) ?_
        obtain ⟨hk370, hS⟩ := chk_some hS
        refine dj_H 18 (v := str ((((y362 ++ ([58])) ++ y347.User) ++ ([124])) ++ y354.ID)) (by kernel_rfl) (by kernel_rfl) rfl (fun _ _ _ h => h) (sj_refl hb.bd rfl rfl) (fun w1 ρ1 hw1 => ev_cat rfl rfl hk370) (by decide) ?_
        refine dj_E 19 (by kernel_rfl) rfl ?_
        have jt371 : Tr ρ125 w364 (fun t => ([7] : List Nat).contains t) ρ125 w364 := (Tr.refl hb.bd).weak (fun _ _ => rfl) rfl rfl
        refine sr_litT (c := strC) (ρ := ρ125) (E := 9) (xs := [(((y362 ++ ([58])) ++ y347.User) ++ ([124])) ++ y354.ID]) (vs := #[(0, str ((((y362 ++ ([58])) ++ y347.User) ++ ([124])) ++ y354.ID))]) (cs := #[str ((((y362 ++ ([58])) ++ y347.User) ++ ([124])) ++ y354.ID)]) (css := [[str ((((y362 ++ ([58])) ++ y347.User) ++ ([124])) ++ y354.ID)]]) rfl (fun _ => by kernel_rfl) rfl ⟨rfl, trivial⟩ rfl (by decide) hb.bd (by decide) ?_
        intro v372 w374 h373 hbw376
        have htr375 := Tr.of_below hbw376 hb.bd
        replace hops_0 := hops_0.mv htr375.rd
        replace htexts_4 := htexts_4.mv (htr375.mv (i := 6) rfl) (by decide)
        replace hforms_5 := hforms_5.mv (htr375.mv (i := 7) rfl) (by decide)
        replace hB124 := hB124.mv (htr375.mv (i := 100) rfl)
        replace h123 := h123.mv (htr375.mv (i := 101) rfl)
        replace hb := hb.trans htr375
        replace jt371 := (jt371.trans htr375).weak (J' := (fun t => ([7] : List Nat).contains t)) (by intro t h; simp [rng] at h ⊢ <;> omega) rfl rfl
        refine dj_next (l' := [(0, vops_0), (3, .pointer (some ⟨gd_3, 0, none⟩)), (4, vtexts_4), (5, vforms_5), (6, .int .i64 t_17), (7, str y117.1), (16, .int .i64 t_16), (17, .int .i64 t_17), (69, vforms_5), (88, v372)]) rfl (.cons rfl (.cons rfl (.cons rfl (.cons rfl (.cons rfl (.cons rfl (.cons rfl (.cons rfl (.cons rfl (.cons rfl (.nil _))))))))))) jt371 (by intro t h; simp [rng] at h ⊢ <;> omega) rfl rfl ?_
        refine dj_E 20 (by kernel_rfl) rfl ?_
        have jt377 : Tr ρ125 w374 (fun t => ([7] : List Nat).contains t) ρ125 w374 := (Tr.refl hb.bd).weak (fun _ _ => rfl) rfl rfl
        obtain ⟨hk378, hS⟩ := chk_some hS
        refine sr_appendT (i := 7) (c := strC) (ρ := ρ125) (E := 9) (xs := forms_5) (ys := ([(((y362 ++ ([58])) ++ y347.User) ++ ([124])) ++ y354.ID] : List Str)) hforms_5 ((SlT.of_sl (i := 0) h373)).x Tryd.underlying26 Tryd.info9 rfl rfl rfl (by decide) (by decide) (by decide) hb.bd hk378 rfl rfl (by decide) ?_
        intro v379 ρ381 w382 h380 htr383
        replace hops_0 := hops_0.mv htr383.rd
        replace htexts_4 := htexts_4.mv (htr383.mv (i := 6) rfl) (by decide)
        replace hB124 := hB124.mv (htr383.mv (i := 100) rfl)
        replace h123 := h123.mv (htr383.mv (i := 101) rfl)
        replace hb := hb.trans htr383
        replace jt377 := (jt377.trans htr383).weak (J' := (fun t => ([7] : List Nat).contains t)) (by intro t h; simp [rng] at h ⊢ <;> omega) rfl rfl
        refine dj_next (l' := [(0, vops_0), (3, .pointer (some ⟨gd_3, 0, none⟩)), (4, vtexts_4), (5, vforms_5), (6, .int .i64 t_17), (7, str y117.1), (16, .int .i64 t_16), (17, .int .i64 t_17), (89, v379)]) rfl (.cons rfl (.cons rfl (.cons rfl (.cons rfl (.cons rfl (.cons rfl (.cons rfl (.cons rfl (.cons rfl (.nil _)))))))))) jt377 (by intro t h; simp [rng] at h ⊢ <;> omega) rfl rfl ?_
        refine dj_H 21 (v := v379) (by kernel_rfl) (by kernel_rfl) rfl (fun _ _ _ h => h) (sj_refl hb.bd rfl rfl) (fun w1 ρ1 hw1 => ev_assign rfl) (by decide) ?_
        refine dj_done rfl (by kernel_rfl) ?_
        refine ke_weaken (l' := [(0, vops_0), (3, .pointer (some ⟨gd_3, 0, none⟩)), (4, vtexts_4), (5, v379), (6, .int .i64 t_17), (7, str y117.1), (16, .int .i64 t_16), (17, .int .i64 t_17)]) (.cons rfl (.cons rfl (.cons rfl (.cons rfl (.cons rfl (.cons rfl (.cons rfl (.cons rfl (.nil _))))))))) ?_
        refine ke_seq ?_
        refine ke_seq ?_
        refine ke_region ?_
        refine sr_ev (v := vtexts_4) (ev_move rfl) (by decide) ?_
        refine sr_ev (v := .int .i64 (texts_4.length : Int)) (ev_sllen Tryd.underlying26 rfl htexts_4.asSl) (by decide) ?_
        refine sr_ev (v := .int .i64 0) (ev_move rfl) (by decide) ?_
        refine sr_end (l' := [(0, vops_0), (3, .pointer (some ⟨gd_3, 0, none⟩)), (4, vtexts_4), (5, v379), (6, .int .i64 t_17), (7, str y117.1), (16, .int .i64 t_16), (17, .int .i64 t_17), (91, .int .i64 (texts_4.length : Int)), (92, .int .i64 0)]) (.cons rfl (.cons rfl (.cons rfl (.cons rfl (.cons rfl (.cons rfl (.cons rfl (.cons rfl (.cons rfl (.cons rfl (.nil _))))))))))) ?_
        refine ke_block ?_
        have hK := law37_DeviceChallenges_L3_ok hg hbd hz _ hr0 _ hS hb hops_0 ⟨_, hB124, h123⟩ htexts_4 h380
        exact ke_weaken (l' := [(0, vops_0), (3, .pointer (some ⟨gd_3, 0, none⟩)), (4, vtexts_4), (5, v379), (6, .int .i64 t_17), (7, str y117.1), (16, .int .i64 t_16), (17, .int .i64 t_17), (91, .int .i64 (texts_4.length : Int)), (92, .int .i64 0)]) (.cons rfl (.cons rfl (.cons rfl (.cons rfl (.cons rfl (.cons rfl (.cons rfl (.cons rfl (.cons rfl (.cons rfl (.nil _))))))))))) (ke_loop hK)
    · replace hS := ite_false' hS hc28
      refine ke_exit (k' := _) rfl ?_
      refine ke_seq ?_
      refine ke_region ?_
      refine sr_ev (v := .bool true) (ev_assign rfl) (by decide) ?_
      refine sr_end (l' := [(2, .bool true)]) (.cons rfl (.nil _)) ?_
      cases hS
      exact ke_ret1 Tryd.func4 rfl rfl ⟨_, rfl, rfl, (hb.below (flat1_le _))⟩
theorem law37_DeviceChallenges_ok (w0 : World) (hg : Gs w0) {ρA : Tags} (hbd : ∀ b, ρA b ≠ 0 → b < w0.heap.size) (hz : Gz ρA) {ops_0 : List law37_Op} {v1 : Value} {r : Bool} (h2 : SlR law37_Op.c (Wb ρA) w0 v1 ops_0) (hS : law37_DeviceChallenges ops_0 = some r) :
    Calls Tryd.prog 4 #[v1] w0 (Ret (fun v w' => v = .bool r ∧ Below w0.heap.size w0 w')) := by
  unfold law37_DeviceChallenges at hS
  have hb := flat1_fr (ρ := ρA) (w := w0) hbd
  have hz := hz.flat1
  replace h2 := SlR.mv h2 flat1_rd
  refine calls_of_ke Tryd.func4 rfl (n := 138) rfl rfl (l := [(0, v1)]) rfl ?_
  refine ke_seq ?_
  refine ke_region ?_
  refine sr_ev (v := .bool false) (ev_assign rfl) (by decide) ?_
  refine sr_end (l' := [(0, v1)]) (.cons rfl (.nil _)) ?_
  refine ke_seq ?_
  refine ke_seq ?_
  refine ke_region ?_
  obtain ⟨y3, hy4, hS⟩ := bind_some' hS
  refine sr_call (vs := []) rfl Tryd.call8 rfl (law37_live_ok _ (hg.fr hz hb) (ρA := (flat1 ρA)) hb.bd (hz.fr hg hb) hy4) (by decide) ?_
  rintro _ w5 ⟨rfl, hbw6⟩
  have htr7 := Tr.of_below hbw6 hb.bd
  replace h2 := h2.mv htr7.rd
  replace hb := hb.trans htr7
  refine sr_ev (v := .bool (!y3)) (ev_not rfl) (by decide) ?_
  refine sr_end (l' := [(0, v1), (11, .bool (!y3))]) (.cons rfl (.cons rfl (.nil _))) ?_
  refine ke_cond (t := !y3) rfl (fun hc8 => ?_) (fun hc8 => ?_)
  · replace hS := ite_true' hS hc8
    refine ke_seq ?_
    refine ke_region ?_
    refine sr_ev (v := .bool false) (ev_assign rfl) (by decide) ?_
    refine sr_end (l' := [(2, .bool false)]) (.cons rfl (.nil _)) ?_
    cases hS
    exact ke_ret1 Tryd.func4 rfl rfl ⟨_, rfl, rfl, (hb.below (flat1_le _))⟩
  · replace hS := ite_false' hS hc8
    refine ke_skip ?_
    refine ke_seq ?_
    refine ke_seq ?_
    refine ke_region ?_
    refine sr_ev (v := v1) (ev_move rfl) (by decide) ?_
    obtain ⟨y9, hy10, hS⟩ := bind_some' hS
    refine sr_call (vs := [v1, .int .i64 20]) rfl Tryd.call9 rfl (law37_long_ok _ (hg.fr hz hb) (ρA := (flat1 ρA)) hb.bd (hz.fr hg hb) h2 hy10) (by decide) ?_
    rintro _ w11 ⟨rfl, hbw12⟩
    have htr13 := Tr.of_below hbw12 hb.bd
    replace h2 := h2.mv htr13.rd
    replace hb := hb.trans htr13
    refine sr_end (l' := [(0, v1), (13, .bool y9)]) (.cons rfl (.cons rfl (.nil _))) ?_
    refine ke_cond (t := y9) rfl (fun hc14 => ?_) (fun hc14 => ?_)
    · replace hS := ite_true' hS hc14
      refine ke_seq ?_
      refine ke_region ?_
      refine sr_ev (v := .bool true) (ev_assign rfl) (by decide) ?_
      refine sr_end (l' := [(2, .bool true)]) (.cons rfl (.nil _)) ?_
      cases hS
      exact ke_ret1 Tryd.func4 rfl rfl ⟨_, rfl, rfl, (hb.below (flat1_le _))⟩
    · replace hS := ite_false' hS hc14
      refine ke_skip ?_
      refine ke_seq ?_
      refine ke_region ?_
      obtain ⟨y15, hy16, hS⟩ := bind_some' hS
      refine sr_call (vs := []) rfl Tryd.call16 rfl (device_New_ok _ (hg.fr hz hb) (ρA := (flat1 ρA)) hb.bd (hz.fr hg hb) (o := 100) (by decide) hy16) (by decide) ?_
      rintro _ w17 ⟨ρ24, g20, rfl, ⟨v21, hB23, h22⟩, htr19⟩
      replace h2 := h2.mv htr19.rd
      replace hb := hb.trans htr19
      replace hB23 : Blk ρ24 100 w17 g20 (.cells #[v21, .int .i64 y15.given] 62 (0, 0)) := hB23
      replace h22 : MapT device_key.ek device_record.c true ρ24 101 w17 v21 y15.records := h22
      refine sr_ev (v := .pointer (some ⟨g20, 0, none⟩)) (ev_assign rfl) (by decide) ?_
      refine sr_end (l' := [(0, v1), (3, .pointer (some ⟨g20, 0, none⟩))]) (.cons rfl (.cons rfl (.nil _))) ?_
      refine ke_seq ?_
      refine ke_region ?_
      refine sr_ev (v := .slice none 0 0) (ev_assign rfl) (by decide) ?_
      refine sr_ev (v := .slice none 0 0) (ev_assign rfl) (by decide) ?_
      refine sr_end (l' := [(0, v1), (3, .pointer (some ⟨g20, 0, none⟩)), (4, .slice none 0 0), (5, .slice none 0 0)]) (.cons rfl (.cons rfl (.cons rfl (.cons rfl (.nil _))))) ?_
      refine ke_seq ?_
      refine ke_seq ?_
      refine ke_region ?_
      refine sr_ev (v := v1) (ev_move rfl) (by decide) ?_
      refine sr_ev (v := .int .i64 (ops_0.length : Int)) (ev_sllen Tryd.underlying22 rfl h2.asSl) (by decide) ?_
      refine sr_ev (v := .int .i64 0) (ev_move rfl) (by decide) ?_
      refine sr_end (l' := [(0, v1), (3, .pointer (some ⟨g20, 0, none⟩)), (4, .slice none 0 0), (5, .slice none 0 0), (16, .int .i64 (ops_0.length : Int)), (17, .int .i64 0)]) (.cons rfl (.cons rfl (.cons rfl (.cons rfl (.cons rfl (.cons rfl (.nil _))))))) ?_
      refine ke_block ?_
      have hK := law37_DeviceChallenges_L1_ok hg hbd hz _ hS hb h2 ⟨_, hB23, h22⟩ OwnT.nil OwnT.nil
      exact ke_weaken (l' := [(0, v1), (3, .pointer (some ⟨g20, 0, none⟩)), (4, (.slice none 0 0)), (5, (.slice none 0 0)), (16, .int .i64 (ops_0.length : Int)), (17, .int .i64 0)]) (.cons rfl (.cons rfl (.cons rfl (.cons rfl (.cons rfl (.cons rfl (.nil _))))))) (ke_loop hK)
theorem law37_DeviceApart_B2_ok {w0 : World} (hg : Gs w0) {ρA : Tags} (hbd : ∀ b, ρA b ≠ 0 → b < w0.heap.size) (hz : Gz (flat1 ρA)) (r0 : List law37_Op → Str → Str → Int → device_Devices → device_Devices → Str → Int → Int → Option (Bool))
    (hr0 : ∀ {r : Bool} {others_1 : List law37_Op} {user_2 : Str} {id_3 : Str} {now_4 : Int} {oa_11 : device_Devices} {ob_13 : device_Devices} {last_14 : Str} {t_45 : Int} {t_46 : Int} {vothers_1 : Value} {ga_11 : Nat} {gb_13 : Nat}, r0 others_1 user_2 id_3 now_4 oa_11 ob_13 last_14 t_45 t_46 = some r → ∀ {ρ : Tags} {w : World}, (Fr (flat1 ρA) w0 ρ w) → (SlR law37_Op.c (Wb ρ) w vothers_1 others_1) → (device_Devices.O (fun p => 100 + p) ρ w ga_11 oa_11) → (device_Devices.O (fun p => 200 + p) ρ w gb_13 ob_13) → KE Tryd.prog 5 (Ret (fun v w' => v = .bool r ∧ Below w0.heap.size w0 w')) 129 [.inLoop (sub (bodyOf Tryd.f5) [2, 2, 2, 2, 2, 1, 2, 2, 1]), .inBlock 0, .code (sub (bodyOf Tryd.f5) [2, 2, 2, 2, 2, 2])] [(1, vothers_1), (2, str user_2), (3, str id_3), (4, .int .i64 now_4), (11, .pointer (some ⟨ga_11, 0, none⟩)), (13, .pointer (some ⟨gb_13, 0, none⟩)), (14, str last_14), (45, .int .i64 t_45), (46, .int .i64 t_46)] w) {r : Bool} {others_1 : List law37_Op} {user_2 : Str} {id_3 : Str} {now_4 : Int} {oa_11 : device_Devices} {ob_13 : device_Devices} {last_14 : Str} {t_45 : Int} {t_46 : Int} {vothers_1 : Value} {ga_11 : Nat} {gb_13 : Nat} (hS : law37_DeviceApart_B2 r0 others_1 user_2 id_3 now_4 oa_11 ob_13 last_14 t_45 t_46 = some r) {ρ : Tags} {w : World} (hb : Fr (flat1 ρA) w0 ρ w) (hothers_1 : SlR law37_Op.c (Wb ρ) w vothers_1 others_1) (hoa_11 : device_Devices.O (fun p => 100 + p) ρ w ga_11 oa_11) (hob_13 : device_Devices.O (fun p => 200 + p) ρ w gb_13 ob_13) :
    KE Tryd.prog 5 (Ret (fun v w' => v = .bool r ∧ Below w0.heap.size w0 w')) 129 [.inBlock 1, .code (sub (bodyOf Tryd.f5) [2, 2, 2, 2, 2, 1, 2, 2, 1, 2, 2, 2]), .inLoop (sub (bodyOf Tryd.f5) [2, 2, 2, 2, 2, 1, 2, 2, 1]), .inBlock 0, .code (sub (bodyOf Tryd.f5) [2, 2, 2, 2, 2, 2])] [(1, vothers_1), (2, str user_2), (3, str id_3), (4, .int .i64 now_4), (11, .pointer (some ⟨ga_11, 0, none⟩)), (13, .pointer (some ⟨gb_13, 0, none⟩)), (14, str last_14), (45, .int .i64 t_45), (46, .int .i64 t_46)] w := by
  unfold law37_DeviceApart_B2 at hS
  obtain ⟨v101, hB103, h102⟩ := hoa_11
  replace hB103 : Blk ρ 100 w ga_11 (.cells #[v101, .int .i64 oa_11.given] 62 (0, 0)) := hB103
  replace h102 : MapT device_key.ek device_record.c true ρ 101 w v101 oa_11.records := h102
  obtain ⟨v104, hB106, h105⟩ := hob_13
  replace hB106 : Blk ρ 200 w gb_13 (.cells #[v104, .int .i64 ob_13.given] 62 (0, 0)) := hB106
  replace h105 : MapT device_key.ek device_record.c true ρ 201 w v104 ob_13.records := h105
  refine ke_inBlock ?_
  refine ke_region ?_
  refine sr_ev (v := .int .i64 (IntKind.i64.wrap (t_46 + 1))) (ev_add rfl rfl) (by decide) ?_
  refine sr_ev (v := .int .i64 (IntKind.i64.wrap (t_46 + 1))) (ev_move rfl) (by decide) ?_
  refine sr_end (l' := [(1, vothers_1), (2, str user_2), (3, str id_3), (4, .int .i64 now_4), (11, .pointer (some ⟨ga_11, 0, none⟩)), (13, .pointer (some ⟨gb_13, 0, none⟩)), (14, str last_14), (45, .int .i64 t_45), (46, .int .i64 (IntKind.i64.wrap (t_46 + 1)))]) (.cons rfl (.cons rfl (.cons rfl (.cons rfl (.cons rfl (.cons rfl (.cons rfl (.cons rfl (.cons rfl (.nil _)))))))))) ?_
  have hK := hr0 hS hb hothers_1 ⟨_, hB103, h102⟩ ⟨_, hB106, h105⟩
  exact ke_weaken (l' := [(1, vothers_1), (2, str user_2), (3, str id_3), (4, .int .i64 now_4), (11, .pointer (some ⟨ga_11, 0, none⟩)), (13, .pointer (some ⟨gb_13, 0, none⟩)), (14, str last_14), (45, .int .i64 t_45), (46, .int .i64 (IntKind.i64.wrap (t_46 + 1)))]) (.cons rfl (.cons rfl (.cons rfl (.cons rfl (.cons rfl (.cons rfl (.cons rfl (.cons rfl (.cons rfl (.nil _)))))))))) hK
theorem law37_DeviceApart_L1_ok {w0 : World} (hg : Gs w0) {ρA : Tags} (hbd : ∀ b, ρA b ≠ 0 → b < w0.heap.size) (hz : Gz (flat1 ρA)) : ∀ (n : Nat), ∀ {r : Bool} {others_1 : List law37_Op} {user_2 : Str} {id_3 : Str} {now_4 : Int} {oa_11 : device_Devices} {ob_13 : device_Devices} {last_14 : Str} {t_45 : Int} {t_46 : Int} {vothers_1 : Value} {ga_11 : Nat} {gb_13 : Nat}, law37_DeviceApart_L1 n others_1 user_2 id_3 now_4 oa_11 ob_13 last_14 t_45 t_46 = some r → ∀ {ρ : Tags} {w : World}, (Fr (flat1 ρA) w0 ρ w) → (SlR law37_Op.c (Wb ρ) w vothers_1 others_1) → (device_Devices.O (fun p => 100 + p) ρ w ga_11 oa_11) → (device_Devices.O (fun p => 200 + p) ρ w gb_13 ob_13) → KE Tryd.prog 5 (Ret (fun v w' => v = .bool r ∧ Below w0.heap.size w0 w')) 129 [.code (sub (bodyOf Tryd.f5) [2, 2, 2, 2, 2, 1, 2, 2, 1]), .inLoop (sub (bodyOf Tryd.f5) [2, 2, 2, 2, 2, 1, 2, 2, 1]), .inBlock 0, .code (sub (bodyOf Tryd.f5) [2, 2, 2, 2, 2, 2])] [(1, vothers_1), (2, str user_2), (3, str id_3), (4, .int .i64 now_4), (11, .pointer (some ⟨ga_11, 0, none⟩)), (13, .pointer (some ⟨gb_13, 0, none⟩)), (14, str last_14), (45, .int .i64 t_45), (46, .int .i64 t_46)] w := by
  intro n
  induction n with
  | zero => intro r others_1 user_2 id_3 now_4 oa_11 ob_13 last_14 t_45 t_46 vothers_1 ga_11 gb_13 hS; cases hS
  | succ n ih =>
    have hr0 : ∀ {r : Bool} {others_1 : List law37_Op} {user_2 : Str} {id_3 : Str} {now_4 : Int} {oa_11 : device_Devices} {ob_13 : device_Devices} {last_14 : Str} {t_45 : Int} {t_46 : Int} {vothers_1 : Value} {ga_11 : Nat} {gb_13 : Nat}, law37_DeviceApart_L1 n others_1 user_2 id_3 now_4 oa_11 ob_13 last_14 t_45 t_46 = some r → ∀ {ρ : Tags} {w : World}, (Fr (flat1 ρA) w0 ρ w) → (SlR law37_Op.c (Wb ρ) w vothers_1 others_1) → (device_Devices.O (fun p => 100 + p) ρ w ga_11 oa_11) → (device_Devices.O (fun p => 200 + p) ρ w gb_13 ob_13) → KE Tryd.prog 5 (Ret (fun v w' => v = .bool r ∧ Below w0.heap.size w0 w')) 129 [.inLoop (sub (bodyOf Tryd.f5) [2, 2, 2, 2, 2, 1, 2, 2, 1]), .inBlock 0, .code (sub (bodyOf Tryd.f5) [2, 2, 2, 2, 2, 2])] [(1, vothers_1), (2, str user_2), (3, str id_3), (4, .int .i64 now_4), (11, .pointer (some ⟨ga_11, 0, none⟩)), (13, .pointer (some ⟨gb_13, 0, none⟩)), (14, str last_14), (45, .int .i64 t_45), (46, .int .i64 t_46)] w := fun {r} {others_1} {user_2} {id_3} {now_4} {oa_11} {ob_13} {last_14} {t_45} {t_46} {vothers_1} {ga_11} {gb_13} hS {ρ} {w} hb hothers_1 hoa_11 hob_13 => ke_inLoop (ih hS hb hothers_1 hoa_11 hob_13)
    clear ih
    intro r others_1 user_2 id_3 now_4 oa_11 ob_13 last_14 t_45 t_46 vothers_1 ga_11 gb_13 hS ρ w hb hothers_1 hoa_11 hob_13
    unfold law37_DeviceApart_L1 at hS
    obtain ⟨v68, hB70, h69⟩ := hoa_11
    replace hB70 : Blk ρ 100 w ga_11 (.cells #[v68, .int .i64 oa_11.given] 62 (0, 0)) := hB70
    replace h69 : MapT device_key.ek device_record.c true ρ 101 w v68 oa_11.records := h69
    obtain ⟨v71, hB73, h72⟩ := hob_13
    replace hB73 : Blk ρ 200 w gb_13 (.cells #[v71, .int .i64 ob_13.given] 62 (0, 0)) := hB73
    replace h72 : MapT device_key.ek device_record.c true ρ 201 w v71 ob_13.records := h72
    refine ke_seq ?_
    refine ke_region ?_
    refine sr_ev (v := .bool (decide (t_46 < t_45))) (ev_lt rfl rfl) (by decide) ?_
    refine sr_end (l' := [(1, vothers_1), (2, str user_2), (3, str id_3), (4, .int .i64 now_4), (11, .pointer (some ⟨ga_11, 0, none⟩)), (13, .pointer (some ⟨gb_13, 0, none⟩)), (14, str last_14), (45, .int .i64 t_45), (46, .int .i64 t_46), (47, .bool (decide (t_46 < t_45)))]) (.cons rfl (.cons rfl (.cons rfl (.cons rfl (.cons rfl (.cons rfl (.cons rfl (.cons rfl (.cons rfl (.cons rfl (.nil _))))))))))) ?_
    refine ke_seq ?_
    refine ke_cond (t := decide (t_46 < t_45)) rfl (fun hc74 => ?_) (fun hc74 => ?_)
    · replace hS := ite_true' hS hc74
      refine ke_skip ?_
      refine ke_seq ?_
      refine ke_block ?_
      refine ke_seq ?_
      refine ke_region ?_
      refine sr_ev (v := .int .i64 t_46) (ev_move rfl) (by decide) ?_
      refine sr_ev (v := .int .i64 t_46) (ev_assign rfl) (by decide) ?_
      refine sr_end (l' := [(1, vothers_1), (2, str user_2), (3, str id_3), (4, .int .i64 now_4), (11, .pointer (some ⟨ga_11, 0, none⟩)), (13, .pointer (some ⟨gb_13, 0, none⟩)), (14, str last_14), (15, .int .i64 t_46), (45, .int .i64 t_45), (46, .int .i64 t_46)]) (.cons rfl (.cons rfl (.cons rfl (.cons rfl (.cons rfl (.cons rfl (.cons rfl (.cons rfl (.cons rfl (.cons rfl (.nil _))))))))))) ?_
      refine ke_seq ?_
      refine ke_region ?_
      refine sr_ev (v := vothers_1) (ev_move rfl) (by decide) ?_
      refine sr_ev (v := .int .i64 t_46) (ev_move rfl) (by decide) ?_
      obtain ⟨y75, hy76, hS⟩ := bind_some' hS
      obtain ⟨b77, o78, cs80, hq81, he79⟩ := ((SlT.of_sl (i := 0) hothers_1)).elem (P := Tryd.prog) Tryd.underlying22 Tryd.info39 rfl hy76
      obtain rfl : cs80 = [.int .i64 y75.Kind, str y75.User, str y75.ID, str y75.Secret, .int .i64 y75.Until, .int .i64 y75.Now] := he79.rd
      refine sr_ev (v := .pointer (some ⟨b77, o78, none⟩)) (hq81 w rfl rfl) (by decide) ?_
      refine sr_ev (v := .pointer (some ⟨b77, o78 + 1, none⟩)) (ev_fieldAddr (i := 1) Tryd.underlying39 rfl Tryd.info9 rfl rfl) (by decide) ?_
      refine sr_ev (v := str y75.User) (ev_load Tryd.isAgg9 rfl (he79.cell 1 _ rfl)) (by decide) ?_
      refine sr_ev (v := str user_2) (ev_move rfl) (by decide) ?_
      refine sr_ev (v := .bool (!(y75.User == user_2))) (ev_sne rfl rfl) (by decide) ?_
      refine sr_end (l' := [(1, vothers_1), (2, str user_2), (3, str id_3), (4, .int .i64 now_4), (11, .pointer (some ⟨ga_11, 0, none⟩)), (13, .pointer (some ⟨gb_13, 0, none⟩)), (14, str last_14), (15, .int .i64 t_46), (45, .int .i64 t_45), (46, .int .i64 t_46), (55, .bool (!(y75.User == user_2)))]) (.cons rfl (.cons rfl (.cons rfl (.cons rfl (.cons rfl (.cons rfl (.cons rfl (.cons rfl (.cons rfl (.cons rfl (.cons rfl (.nil _)))))))))))) ?_
      refine ke_cond (t := !(y75.User == user_2)) rfl (fun hc82 => ?_) (fun hc82 => ?_)
      · replace hS := ite_true' hS hc82
        refine ke_region ?_
        refine sr_ev (v := .pointer (some ⟨gb_13, 0, none⟩)) (ev_move rfl) (by decide) ?_
        refine sr_ev (v := vothers_1) (ev_move rfl) (by decide) ?_
        refine sr_ev (v := .int .i64 t_46) (ev_move rfl) (by decide) ?_
        obtain ⟨y83, hy84, hS⟩ := bind_some' hS
        obtain ⟨b85, o86, cs88, hq89, he87⟩ := ((SlT.of_sl (i := 0) hothers_1)).elem (P := Tryd.prog) Tryd.underlying22 Tryd.info39 rfl hy84
        obtain rfl : cs88 = [.int .i64 y83.Kind, str y83.User, str y83.ID, str y83.Secret, .int .i64 y83.Until, .int .i64 y83.Now] := he87.rd
        refine sr_ev (v := .pointer (some ⟨b85, o86, none⟩)) (hq89 w rfl rfl) (by decide) ?_
        refine sr_ev (v := .agg #[.int .i64 y83.Kind, str y83.User, str y83.ID, str y83.Secret, .int .i64 y83.Until, .int .i64 y83.Now]) (ev_loads (cs := [.int .i64 y83.Kind, str y83.User, str y83.ID, str y83.Secret, .int .i64 y83.Until, .int .i64 y83.Now]) Tryd.isAgg39 Tryd.sizeOf39 rfl he87.cell) (by decide) ?_
        refine sr_ev (v := str last_14) (ev_move rfl) (by decide) ?_
        obtain ⟨y90, hy91, hS⟩ := bind_some' hS
        refine sr_call (vs := [.pointer (some ⟨gb_13, 0, none⟩), .agg #[.int .i64 y83.Kind, str y83.User, str y83.ID, str y83.Secret, .int .i64 y83.Until, .int .i64 y83.Now], str last_14]) rfl Tryd.call21 rfl (law37_do_ok _ (hg.fr hz hb) (ρA := ρ) hb.bd (hz.fr hg hb) (o := 200) (by decide) (⟨_, hB73, h72⟩ : device_Devices.O (fun p => 200 + p) ρ w gb_13 ob_13) hy91) (by decide) ?_
        rintro _ w92 ⟨ρ100, v95, rfl, h96, ⟨v97, hB99, h98⟩, htr94⟩
        replace hothers_1 := hothers_1.mv htr94.rd
        replace hB70 := hB70.mv (htr94.mv (i := 100) rfl)
        replace h69 := h69.mv (htr94.mv (i := 101) rfl)
        replace hb := hb.trans htr94
        replace hB99 : Blk ρ100 200 w92 gb_13 (.cells #[v97, .int .i64 y90.2.given] 62 (0, 0)) := hB99
        replace h98 : MapT device_key.ek device_record.c true ρ100 201 w92 v97 y90.2.records := h98
        refine sr_end (l' := [(1, vothers_1), (2, str user_2), (3, str id_3), (4, .int .i64 now_4), (11, .pointer (some ⟨ga_11, 0, none⟩)), (13, .pointer (some ⟨gb_13, 0, none⟩)), (14, str last_14), (45, .int .i64 t_45), (46, .int .i64 t_46)]) (.cons rfl (.cons rfl (.cons rfl (.cons rfl (.cons rfl (.cons rfl (.cons rfl (.cons rfl (.cons rfl (.nil _)))))))))) ?_
        have hK := law37_DeviceApart_B2_ok hg hbd hz _ hr0 hS hb hothers_1 ⟨_, hB70, h69⟩ ⟨_, hB99, h98⟩
        exact ke_weaken (l' := [(1, vothers_1), (2, str user_2), (3, str id_3), (4, .int .i64 now_4), (11, .pointer (some ⟨ga_11, 0, none⟩)), (13, .pointer (some ⟨gb_13, 0, none⟩)), (14, str last_14), (45, .int .i64 t_45), (46, .int .i64 t_46)]) (.cons rfl (.cons rfl (.cons rfl (.cons rfl (.cons rfl (.cons rfl (.cons rfl (.cons rfl (.cons rfl (.nil _)))))))))) hK
      · replace hS := ite_false' hS hc82
        refine ke_skip ?_
        have hK := law37_DeviceApart_B2_ok hg hbd hz _ hr0 hS hb hothers_1 ⟨_, hB70, h69⟩ ⟨_, hB73, h72⟩
        exact ke_weaken (l' := [(1, vothers_1), (2, str user_2), (3, str id_3), (4, .int .i64 now_4), (11, .pointer (some ⟨ga_11, 0, none⟩)), (13, .pointer (some ⟨gb_13, 0, none⟩)), (14, str last_14), (45, .int .i64 t_45), (46, .int .i64 t_46)]) (.cons rfl (.cons rfl (.cons rfl (.cons rfl (.cons rfl (.cons rfl (.cons rfl (.cons rfl (.cons rfl (.nil _)))))))))) hK
    · replace hS := ite_false' hS hc74
      refine ke_exit (k' := _) rfl ?_
      refine ke_seq ?_
      refine ke_seq ?_
      refine ke_region ?_
      refine sr_ev (v := .pointer (some ⟨ga_11, 0, none⟩)) (ev_move rfl) (by decide) ?_
      refine sr_ev (v := str user_2) (ev_move rfl) (by decide) ?_
      refine sr_ev (v := str id_3) (ev_move rfl) (by decide) ?_
      refine sr_ev (v := .int .i64 now_4) (ev_move rfl) (by decide) ?_
      obtain ⟨y107, hy108, hS⟩ := bind_some' hS
      refine sr_call (vs := [.pointer (some ⟨ga_11, 0, none⟩), str user_2, str id_3, .int .i64 now_4]) rfl Tryd.call13 rfl (device_Devices_Trusted_ok _ (hg.fr hz hb) (ρA := ρ) hb.bd (hz.fr hg hb) (τ0 := (fun p => 100 + p)) (fun p => Nat.le_add_right_of_le (by decide)) (⟨_, hB70, h69⟩ : device_Devices.O (fun p => 100 + p) ρ w ga_11 oa_11) hy108) (by decide) ?_
      rintro _ w109 ⟨rfl, hbw110⟩
      have htr111 := Tr.of_below hbw110 hb.bd
      replace hB70 := hB70.mv (htr111.mv (i := 100) rfl)
      replace h69 := h69.mv (htr111.mv (i := 101) rfl)
      replace hB73 := hB73.mv (htr111.mv (i := 200) rfl)
      replace h72 := h72.mv (htr111.mv (i := 201) rfl)
      replace hb := hb.trans htr111
      refine sr_ev (v := .pointer (some ⟨gb_13, 0, none⟩)) (ev_move rfl) (by decide) ?_
      refine sr_ev (v := str user_2) (ev_move rfl) (by decide) ?_
      refine sr_ev (v := str id_3) (ev_move rfl) (by decide) ?_
      refine sr_ev (v := .int .i64 now_4) (ev_move rfl) (by decide) ?_
      obtain ⟨y112, hy113, hS⟩ := bind_some' hS
      refine sr_call (vs := [.pointer (some ⟨gb_13, 0, none⟩), str user_2, str id_3, .int .i64 now_4]) rfl Tryd.call13 rfl (device_Devices_Trusted_ok _ (hg.fr hz hb) (ρA := ρ) hb.bd (hz.fr hg hb) (τ0 := (fun p => 200 + p)) (fun p => Nat.le_add_right_of_le (by decide)) (⟨_, hB73, h72⟩ : device_Devices.O (fun p => 200 + p) ρ w109 gb_13 ob_13) hy113) (by decide) ?_
      rintro _ w114 ⟨rfl, hbw115⟩
      have htr116 := Tr.of_below hbw115 hb.bd
      replace hB70 := hB70.mv (htr116.mv (i := 100) rfl)
      replace h69 := h69.mv (htr116.mv (i := 101) rfl)
      replace hB73 := hB73.mv (htr116.mv (i := 200) rfl)
      replace h72 := h72.mv (htr116.mv (i := 201) rfl)
      replace hb := hb.trans htr116
      refine sr_ev (v := .bool (y107 != y112)) (ev_bne Tryd.underlying4 rfl rfl) (by decide) ?_
      refine sr_ev (v := .bool (y107 != y112)) (ev_move rfl) (by decide) ?_
      obtain ⟨z119, hz121, hS⟩ := bind_some' hS
      refine sr_join (m := 11) (C := fun (z : Bool) w1 => z119 = z ∧ ∃ ρ1, Tr ρ w114 (fun _ => false) ρ1 w1) (l' := fun z => [(2, str user_2), (3, str id_3), (4, .int .i64 now_4), (11, .pointer (some ⟨ga_11, 0, none⟩)), (13, .pointer (some ⟨gb_13, 0, none⟩)), (86, .bool z)]) ?_ ?_
      · rintro _ w122 ⟨rfl, ρ123, hj120⟩
        replace hB70 := hB70.mv (hj120.mv (i := 100) rfl)
        replace h69 := h69.mv (hj120.mv (i := 101) rfl)
        replace hB73 := hB73.mv (hj120.mv (i := 200) rfl)
        replace h72 := h72.mv (hj120.mv (i := 201) rfl)
        replace hb := hb.trans hj120
        refine sr_end (l' := [(2, str user_2), (3, str id_3), (4, .int .i64 now_4), (11, .pointer (some ⟨ga_11, 0, none⟩)), (13, .pointer (some ⟨gb_13, 0, none⟩)), (86, .bool z119)]) (.cons rfl (.cons rfl (.cons rfl (.cons rfl (.cons rfl (.cons rfl (.nil _))))))) ?_
        refine ke_cond (t := z119) rfl (fun hc144 => ?_) (fun hc144 => ?_)
        · replace hS := ite_true' hS hc144
          refine ke_seq ?_
          refine ke_region ?_
          refine sr_ev (v := .bool false) (ev_assign rfl) (by decide) ?_
          refine sr_end (l' := [(10, .bool false)]) (.cons rfl (.nil _)) ?_
          cases hS
          exact ke_ret1 Tryd.func5 rfl rfl ⟨_, rfl, rfl, (hb.below (flat1_le _))⟩
        · replace hS := ite_false' hS hc144
          refine ke_skip ?_
          refine ke_seq ?_
          refine ke_region ?_
          refine sr_ev (v := .pointer (some ⟨gb_13, 0, none⟩)) (ev_move rfl) (by decide) ?_
          refine sr_ev (v := str user_2) (ev_move rfl) (by decide) ?_
          obtain ⟨y145, hy146, hS⟩ := bind_some' hS
          refine sr_call (vs := [.pointer (some ⟨gb_13, 0, none⟩), str user_2, .int .i64 0]) rfl Tryd.call23 rfl (device_Devices_List_ok _ (hg.fr hz hb) (ρA := ρ123) hb.bd (hz.fr hg hb) (τ0 := (fun p => 200 + p)) (fun p => Nat.le_add_right_of_le (by decide)) (⟨_, hB73, h72⟩ : device_Devices.O (fun p => 200 + p) ρ123 w122 gb_13 ob_13) hy146) (by decide) ?_
          rintro v150 w147 ⟨_, rfl, h151, hbw148⟩
          have htr149 := Tr.of_below hbw148 hb.bd
          replace hB70 := hB70.mv (htr149.mv (i := 100) rfl)
          replace h69 := h69.mv (htr149.mv (i := 101) rfl)
          replace hB73 := hB73.mv (htr149.mv (i := 200) rfl)
          replace h72 := h72.mv (htr149.mv (i := 201) rfl)
          replace hb := hb.trans htr149
          refine sr_ev (v := .int .i64 (y145.length : Int)) (ev_sllen Tryd.underlying26 rfl h151.asSl) (by decide) ?_
          refine sr_ev (v := .int .i64 (y145.length : Int)) (ev_assign rfl) (by decide) ?_
          refine sr_end (l' := [(2, str user_2), (3, str id_3), (4, .int .i64 now_4), (11, .pointer (some ⟨ga_11, 0, none⟩)), (13, .pointer (some ⟨gb_13, 0, none⟩)), (16, .int .i64 (y145.length : Int))]) (.cons rfl (.cons rfl (.cons rfl (.cons rfl (.cons rfl (.cons rfl (.nil _))))))) ?_
          refine ke_seq ?_
          refine ke_seq ?_
          refine ke_region ?_
          refine sr_ev (v := .pointer (some ⟨gb_13, 0, none⟩)) (ev_move rfl) (by decide) ?_
          refine sr_ev (v := str user_2) (ev_move rfl) (by decide) ?_
          obtain ⟨y152, hy153, hS⟩ := bind_some' hS
          refine sr_call (vs := [.pointer (some ⟨gb_13, 0, none⟩), str user_2]) rfl Tryd.call24 rfl (device_Devices_Drop_ok _ (hg.fr hz hb) (ρA := ρ123) hb.bd (hz.fr hg hb) (o := 200) (by decide) (⟨_, hB73, h72⟩ : device_Devices.O (fun p => 200 + p) ρ123 w147 gb_13 ob_13) hy153) (by decide) ?_
          rintro _ w154 ⟨ρ160, rfl, ⟨v157, hB159, h158⟩, htr156⟩
          replace hB70 := hB70.mv (htr156.mv (i := 100) rfl)
          replace h69 := h69.mv (htr156.mv (i := 101) rfl)
          replace hb := hb.trans htr156
          replace hB159 : Blk ρ160 200 w154 gb_13 (.cells #[v157, .int .i64 y152.2.given] 62 (0, 0)) := hB159
          replace h158 : MapT device_key.ek device_record.c true ρ160 201 w154 v157 y152.2.records := h158
          refine sr_ev (v := .int .i64 y152.1) (ev_assign rfl) (by decide) ?_
          refine sr_end (l' := [(2, str user_2), (3, str id_3), (4, .int .i64 now_4), (11, .pointer (some ⟨ga_11, 0, none⟩)), (13, .pointer (some ⟨gb_13, 0, none⟩)), (16, .int .i64 (y145.length : Int)), (17, .int .i64 y152.1)]) (.cons rfl (.cons rfl (.cons rfl (.cons rfl (.cons rfl (.cons rfl (.cons rfl (.nil _)))))))) ?_
          refine ke_seq ?_
          refine ke_region ?_
          refine sr_ev (v := .int .i64 y152.1) (ev_move rfl) (by decide) ?_
          refine sr_ev (v := .int .i64 (y145.length : Int)) (ev_move rfl) (by decide) ?_
          refine sr_ev (v := .bool (decide (y152.1 < (y145.length : Int)))) (ev_lt rfl rfl) (by decide) ?_
          refine sr_ev (v := .bool (decide (y152.1 < (y145.length : Int)))) (ev_move rfl) (by decide) ?_
          obtain ⟨z163, hz165, hS⟩ := bind_some' hS
          refine sr_join (m := 6) (C := fun (z : Bool × device_Devices) w1 => z163 = z ∧ ∃ ρ1, device_Devices.O (fun p => 100 + p) ρ1 w1 ga_11 z.2 ∧ Tr ρ160 w154 (fun t => ([100, 101] : List Nat).contains t) ρ1 w1) (l' := fun z => [(2, str user_2), (3, str id_3), (4, .int .i64 now_4), (13, .pointer (some ⟨gb_13, 0, none⟩)), (103, .bool z.1)]) ?_ ?_
          · rintro _ w166 ⟨rfl, ρ167, ⟨v178, hB180, h179⟩, hj164⟩
            replace hB159 := hB159.mv (hj164.mv (i := 200) rfl)
            replace h158 := h158.mv (hj164.mv (i := 201) rfl)
            replace hb := hb.trans hj164
            replace hB180 : Blk ρ167 100 w166 ga_11 (.cells #[v178, .int .i64 z163.2.given] 62 (0, 0)) := hB180
            replace h179 : MapT device_key.ek device_record.c true ρ167 101 w166 v178 z163.2.records := h179
            refine sr_end (l' := [(2, str user_2), (3, str id_3), (4, .int .i64 now_4), (13, .pointer (some ⟨gb_13, 0, none⟩)), (103, .bool z163.1)]) (.cons rfl (.cons rfl (.cons rfl (.cons rfl (.cons rfl (.nil _)))))) ?_
            refine ke_cond (t := z163.1) rfl (fun hc181 => ?_) (fun hc181 => ?_)
            · replace hS := ite_true' hS hc181
              refine ke_seq ?_
              refine ke_region ?_
              refine sr_ev (v := .bool false) (ev_assign rfl) (by decide) ?_
              refine sr_end (l' := [(10, .bool false)]) (.cons rfl (.nil _)) ?_
              cases hS
              exact ke_ret1 Tryd.func5 rfl rfl ⟨_, rfl, rfl, (hb.below (flat1_le _))⟩
            · replace hS := ite_false' hS hc181
              refine ke_skip ?_
              refine ke_seq ?_
              refine ke_region ?_
              refine sr_ev (v := .pointer (some ⟨gb_13, 0, none⟩)) (ev_move rfl) (by decide) ?_
              refine sr_ev (v := str user_2) (ev_move rfl) (by decide) ?_
              refine sr_ev (v := str id_3) (ev_move rfl) (by decide) ?_
              refine sr_ev (v := .int .i64 now_4) (ev_move rfl) (by decide) ?_
              obtain ⟨y182, hy183, hS⟩ := bind_some' hS
              refine sr_call (vs := [.pointer (some ⟨gb_13, 0, none⟩), str user_2, str id_3, .int .i64 now_4]) rfl Tryd.call12 rfl (device_Devices_Challenge_ok _ (hg.fr hz hb) (ρA := ρ167) hb.bd (hz.fr hg hb) (o := 200) (by decide) (⟨_, hB159, h158⟩ : device_Devices.O (fun p => 200 + p) ρ167 w166 gb_13 y152.2) hy183) (by decide) ?_
              rintro _ w184 ⟨ρ190, rfl, ⟨v187, hB189, h188⟩, htr186⟩
              replace hb := hb.trans htr186
              replace hB189 : Blk ρ190 200 w184 gb_13 (.cells #[v187, .int .i64 y182.2.2.given] 62 (0, 0)) := hB189
              replace h188 : MapT device_key.ek device_record.c true ρ190 201 w184 v187 y182.2.2.records := h188
              refine sr_ev (v := .tuple #[str y182.1, .int .i64 y182.2.1]) (ev_move rfl) (by decide) ?_
              refine sr_ev (v := str y182.1) (ev_extract rfl rfl) (by decide) ?_
              refine sr_ev (v := .int .i64 y182.2.1) (ev_extract rfl rfl) (by decide) ?_
              refine sr_ev (v := str y182.1) (ev_assign rfl) (by decide) ?_
              refine sr_ev (v := .int .i64 y182.2.1) (ev_assign rfl) (by decide) ?_
              refine sr_end (l' := [(2, str user_2), (3, str id_3), (4, .int .i64 now_4), (13, .pointer (some ⟨gb_13, 0, none⟩)), (19, .int .i64 y182.2.1)]) (.cons rfl (.cons rfl (.cons rfl (.cons rfl (.cons rfl (.nil _)))))) ?_
              refine ke_seq ?_
              refine ke_region ?_
              refine sr_ev (v := .pointer (some ⟨gb_13, 0, none⟩)) (ev_move rfl) (by decide) ?_
              refine sr_ev (v := str user_2) (ev_move rfl) (by decide) ?_
              refine sr_ev (v := .int .i64 now_4) (ev_move rfl) (by decide) ?_
              obtain ⟨y191, hy192, hS⟩ := bind_some' hS
              refine sr_call (vs := [.pointer (some ⟨gb_13, 0, none⟩), str user_2, .int .i64 now_4]) rfl Tryd.call23 rfl (device_Devices_List_ok _ (hg.fr hz hb) (ρA := ρ190) hb.bd (hz.fr hg hb) (τ0 := (fun p => 200 + p)) (fun p => Nat.le_add_right_of_le (by decide)) (⟨_, hB189, h188⟩ : device_Devices.O (fun p => 200 + p) ρ190 w184 gb_13 y182.2.2) hy192) (by decide) ?_
              rintro v196 w193 ⟨_, rfl, h197, hbw194⟩
              have htr195 := Tr.of_below hbw194 hb.bd
              replace hB189 := hB189.mv (htr195.mv (i := 200) rfl)
              replace h188 := h188.mv (htr195.mv (i := 201) rfl)
              replace hb := hb.trans htr195
              refine sr_ev (v := .int .i64 (y191.length : Int)) (ev_sllen Tryd.underlying26 rfl h197.asSl) (by decide) ?_
              refine sr_ev (v := .bool ((y191.length : Int) == 0)) (ev_eq rfl rfl) (by decide) ?_
              refine sr_ev (v := .bool ((y191.length : Int) == 0)) (ev_move rfl) (by decide) ?_
              refine sr_join (m := 3) (C := fun (x : Bool) w1 => x = (((y191.length : Int) == 0) && (y182.2.1 == 6)) ∧ w193 = w1) (l' := fun x => [(2, str user_2), (3, str id_3), (13, .pointer (some ⟨gb_13, 0, none⟩)), (121, .bool x)]) ?_ ?_
              · rintro _ _ ⟨rfl, rfl⟩
                refine sr_ev (v := .bool (((y191.length : Int) == 0) && (y182.2.1 == 6))) (ev_move rfl) (by decide) ?_
                obtain ⟨z208, hz210, hS⟩ := bind_some' hS
                refine sr_join (m := 6) (C := fun (z : Bool) w1 => z208 = z ∧ ∃ ρ1, Tr ρ190 w193 (fun _ => false) ρ1 w1) (l' := fun z => [(128, .bool z)]) ?_ ?_
                · rintro _ w211 ⟨rfl, ρ212, hj209⟩
                  replace hb := hb.trans hj209
                  refine sr_ev (v := .bool z208) (ev_assign rfl) (by decide) ?_
                  refine sr_end (l' := [(10, .bool z208)]) (.cons rfl (.nil _)) ?_
                  cases hS
                  exact ke_ret1 Tryd.func5 rfl rfl ⟨_, rfl, rfl, (hb.below (flat1_le _))⟩
                · intro K207
                  clear hS
                  have hj209 : Tr ρ190 w193 (fun _ => false) ρ190 w193 := (Tr.refl hb.bd).weak (fun _ _ => rfl) rfl rfl
                  rcases Bool.eq_false_or_eq_true (((y191.length : Int) == 0) && (y182.2.1 == 6)) with hg206 | hg206
                  · have hS := ite_true' hz210 hg206
                    refine sr_evg (b := true) (e := 122) rfl rfl hg206 (v := .pointer (some ⟨gb_13, 0, none⟩)) (ev_move rfl) (by decide) ?_
                    refine sr_evg (b := true) (e := 122) rfl rfl hg206 (v := str user_2) (ev_move rfl) (by decide) ?_
                    refine sr_evg (b := true) (e := 122) rfl rfl hg206 (v := str id_3) (ev_move rfl) (by decide) ?_
                    obtain ⟨y214, hy215, hS⟩ := bind_some' hS
                    refine sr_callg (b := true) (e := 122) rfl rfl hg206 (vs := [.pointer (some ⟨gb_13, 0, none⟩), str user_2, str id_3, .int .i64 0]) rfl Tryd.call13 rfl (device_Devices_Trusted_ok _ (hg.fr hz hb) (ρA := ρ190) hb.bd (hz.fr hg hb) (τ0 := (fun p => 200 + p)) (fun p => Nat.le_add_right_of_le (by decide)) (⟨_, hB189, h188⟩ : device_Devices.O (fun p => 200 + p) ρ190 w193 gb_13 y182.2.2) hy215) (by decide) ?_
                    rintro _ w216 ⟨rfl, hbw217⟩
                    have htr218 := Tr.of_below hbw217 hb.bd
                    replace hb := hb.trans htr218
                    replace hj209 := (hj209.trans htr218).weak (J' := (fun _ => false)) (by intro t h; simp [rng] at h ⊢ <;> omega) rfl rfl
                    refine sr_evg (b := true) (e := 122) rfl rfl hg206 (v := .bool (!y214)) (ev_not rfl) (by decide) ?_
                    refine sr_ev (v := .bool (!y214)) (ev_pick_t rfl hg206 rfl) (by decide) ?_
                    exact sr_weaken (l' := [(128, .bool (!y214))]) (.cons rfl (.nil _)) (K207 (!y214) _ ⟨(Option.some.inj hS).symm, _, hj209⟩)
                  · have hS := ite_false' hz210 hg206
                    refine sr_pass (e := 122) rfl rfl (by rw [hg206]; rfl) (by decide) ?_
                    refine sr_pass (e := 122) rfl rfl (by rw [hg206]; rfl) (by decide) ?_
                    refine sr_pass (e := 122) rfl rfl (by rw [hg206]; rfl) (by decide) ?_
                    refine sr_pass (e := 122) rfl rfl (by rw [hg206]; rfl) (by decide) ?_
                    refine sr_pass (e := 122) rfl rfl (by rw [hg206]; rfl) (by decide) ?_
                    refine sr_ev (v := .bool false) (ev_pick_f rfl hg206 rfl) (by decide) ?_
                    exact sr_weaken (l' := [(128, .bool false)]) (.cons rfl (.nil _)) (K207 false _ ⟨(Option.some.inj hS).symm, _, hj209⟩)
              · intro K199
                rcases Bool.eq_false_or_eq_true ((y191.length : Int) == 0) with hg198 | hg198
                all_goals try have hj201 : Tr ρ190 w193 (fun _ => false) ρ190 w193 := Tr.refl hb.bd
                · refine sr_evg (b := true) (e := 118) rfl rfl hg198 (v := .int .i64 y182.2.1) (ev_move rfl) (by decide) ?_
                  refine sr_evg (b := true) (e := 118) rfl rfl hg198 (v := .bool (y182.2.1 == 6)) (ev_eq rfl rfl) (by decide) ?_
                  refine sr_ev (v := .bool (y182.2.1 == 6)) (ev_pick_t rfl hg198 rfl) (by decide) ?_
                  exact sr_weaken (l' := [(2, str user_2), (3, str id_3), (13, .pointer (some ⟨gb_13, 0, none⟩)), (121, .bool (y182.2.1 == 6))]) (.cons rfl (.cons rfl (.cons rfl (.cons rfl (.nil _))))) (K199 (y182.2.1 == 6) _ ⟨by rw [hg198]; rfl, rfl⟩)
                · refine sr_pass (e := 118) rfl rfl (by rw [hg198]; rfl) (by decide) ?_
                  refine sr_pass (e := 118) rfl rfl (by rw [hg198]; rfl) (by decide) ?_
                  refine sr_ev (v := .bool false) (ev_pick_f rfl hg198 rfl) (by decide) ?_
                  exact sr_weaken (l' := [(2, str user_2), (3, str id_3), (13, .pointer (some ⟨gb_13, 0, none⟩)), (121, .bool false)]) (.cons rfl (.cons rfl (.cons rfl (.cons rfl (.nil _))))) (K199 false _ ⟨by rw [hg198]; rfl, rfl⟩)
          · intro K162
            clear hS
            have hj164 : Tr ρ160 w154 (fun t => ([100, 101] : List Nat).contains t) ρ160 w154 := (Tr.refl hb.bd).weak (fun _ _ => rfl) rfl rfl
            rcases Bool.eq_false_or_eq_true (decide (y152.1 < (y145.length : Int))) with hg161 | hg161
            · have hS := ite_true' hz165 hg161
              refine sr_pass (e := 97) rfl rfl (by rw [hg161]; rfl) (by decide) ?_
              refine sr_pass (e := 97) rfl rfl (by rw [hg161]; rfl) (by decide) ?_
              refine sr_pass (e := 97) rfl rfl (by rw [hg161]; rfl) (by decide) ?_
              refine sr_pass (e := 97) rfl rfl (by rw [hg161]; rfl) (by decide) ?_
              refine sr_pass (e := 97) rfl rfl (by rw [hg161]; rfl) (by decide) ?_
              refine sr_ev (v := .bool true) (ev_pick_t rfl hg161 rfl) (by decide) ?_
              exact sr_weaken (l' := [(2, str user_2), (3, str id_3), (4, .int .i64 now_4), (13, .pointer (some ⟨gb_13, 0, none⟩)), (103, .bool true)]) (.cons rfl (.cons rfl (.cons rfl (.cons rfl (.cons rfl (.nil _)))))) (K162 (true, oa_11) _ ⟨(Option.some.inj hS).symm, _, ⟨_, hB70, h69⟩, hj164⟩)
            · have hS := ite_false' hz165 hg161
              refine sr_evg (b := false) (e := 97) rfl rfl hg161 (v := .int .i64 y152.1) (ev_move rfl) (by decide) ?_
              refine sr_evg (b := false) (e := 97) rfl rfl hg161 (v := .pointer (some ⟨ga_11, 0, none⟩)) (ev_move rfl) (by decide) ?_
              refine sr_evg (b := false) (e := 97) rfl rfl hg161 (v := str user_2) (ev_move rfl) (by decide) ?_
              obtain ⟨y169, hy170, hS⟩ := bind_some' hS
              refine sr_callg (b := false) (e := 97) rfl rfl hg161 (vs := [.pointer (some ⟨ga_11, 0, none⟩), str user_2]) rfl Tryd.call24 rfl (device_Devices_Drop_ok _ (hg.fr hz hb) (ρA := ρ160) hb.bd (hz.fr hg hb) (o := 100) (by decide) (⟨_, hB70, h69⟩ : device_Devices.O (fun p => 100 + p) ρ160 w154 ga_11 oa_11) hy170) (by decide) ?_
              rintro _ w171 ⟨ρ177, rfl, ⟨v174, hB176, h175⟩, htr173⟩
              replace hB159 := hB159.mv (htr173.mv (i := 200) rfl)
              replace h158 := h158.mv (htr173.mv (i := 201) rfl)
              replace hb := hb.trans htr173
              replace hj164 := (hj164.trans htr173).weak (J' := (fun t => ([100, 101] : List Nat).contains t)) (by intro t h; simp [rng] at h ⊢ <;> omega) rfl rfl
              replace hB176 : Blk ρ177 100 w171 ga_11 (.cells #[v174, .int .i64 y169.2.given] 62 (0, 0)) := hB176
              replace h175 : MapT device_key.ek device_record.c true ρ177 101 w171 v174 y169.2.records := h175
              refine sr_evg (b := false) (e := 97) rfl rfl hg161 (v := .bool (y152.1 != y169.1)) (ev_ne rfl rfl) (by decide) ?_
              refine sr_ev (v := .bool (y152.1 != y169.1)) (ev_pick_f rfl hg161 rfl) (by decide) ?_
              exact sr_weaken (l' := [(2, str user_2), (3, str id_3), (4, .int .i64 now_4), (13, .pointer (some ⟨gb_13, 0, none⟩)), (103, .bool (y152.1 != y169.1))]) (.cons rfl (.cons rfl (.cons rfl (.cons rfl (.cons rfl (.nil _)))))) (K162 (y152.1 != y169.1, y169.2) _ ⟨(Option.some.inj hS).symm, _, ⟨_, hB176, h175⟩, hj164⟩)
      · intro K118
        clear hS
        have hj120 : Tr ρ w114 (fun _ => false) ρ w114 := (Tr.refl hb.bd).weak (fun _ _ => rfl) rfl rfl
        rcases Bool.eq_false_or_eq_true (y107 != y112) with hg117 | hg117
        · have hS := ite_true' hz121 hg117
          refine sr_pass (e := 75) rfl rfl (by rw [hg117]; rfl) (by decide) ?_
          refine sr_pass (e := 75) rfl rfl (by rw [hg117]; rfl) (by decide) ?_
          refine sr_pass (e := 75) rfl rfl (by rw [hg117]; rfl) (by decide) ?_
          refine sr_pass (e := 75) rfl rfl (by rw [hg117]; rfl) (by decide) ?_
          refine sr_pass (e := 75) rfl rfl (by rw [hg117]; rfl) (by decide) ?_
          refine sr_pass (e := 75) rfl rfl (by rw [hg117]; rfl) (by decide) ?_
          refine sr_pass (e := 75) rfl rfl (by rw [hg117]; rfl) (by decide) ?_
          refine sr_pass (e := 75) rfl rfl (by rw [hg117]; rfl) (by decide) ?_
          refine sr_pass (e := 75) rfl rfl (by rw [hg117]; rfl) (by decide) ?_
          refine sr_pass (e := 75) rfl rfl (by rw [hg117]; rfl) (by decide) ?_
          refine sr_ev (v := .bool true) (ev_pick_t rfl hg117 rfl) (by decide) ?_
          exact sr_weaken (l' := [(2, str user_2), (3, str id_3), (4, .int .i64 now_4), (11, .pointer (some ⟨ga_11, 0, none⟩)), (13, .pointer (some ⟨gb_13, 0, none⟩)), (86, .bool true)]) (.cons rfl (.cons rfl (.cons rfl (.cons rfl (.cons rfl (.cons rfl (.nil _))))))) (K118 true _ ⟨(Option.some.inj hS).symm, _, hj120⟩)
        · have hS := ite_false' hz121 hg117
          refine sr_evg (b := false) (e := 75) rfl rfl hg117 (v := .pointer (some ⟨ga_11, 0, none⟩)) (ev_move rfl) (by decide) ?_
          refine sr_evg (b := false) (e := 75) rfl rfl hg117 (v := str user_2) (ev_move rfl) (by decide) ?_
          refine sr_evg (b := false) (e := 75) rfl rfl hg117 (v := .int .i64 now_4) (ev_move rfl) (by decide) ?_
          obtain ⟨y125, hy126, hS⟩ := bind_some' hS
          refine sr_callg (b := false) (e := 75) rfl rfl hg117 (vs := [.pointer (some ⟨ga_11, 0, none⟩), str user_2, .int .i64 now_4]) rfl Tryd.call23 rfl (device_Devices_List_ok _ (hg.fr hz hb) (ρA := ρ) hb.bd (hz.fr hg hb) (τ0 := (fun p => 100 + p)) (fun p => Nat.le_add_right_of_le (by decide)) (⟨_, hB70, h69⟩ : device_Devices.O (fun p => 100 + p) ρ w114 ga_11 oa_11) hy126) (by decide) ?_
          rintro v130 w127 ⟨_, rfl, h131, hbw128⟩
          have htr129 := Tr.of_below hbw128 hb.bd
          replace hB70 := hB70.mv (htr129.mv (i := 100) rfl)
          replace h69 := h69.mv (htr129.mv (i := 101) rfl)
          replace hB73 := hB73.mv (htr129.mv (i := 200) rfl)
          replace h72 := h72.mv (htr129.mv (i := 201) rfl)
          replace hb := hb.trans htr129
          replace hj120 := (hj120.trans htr129).weak (J' := (fun _ => false)) (by intro t h; simp [rng] at h ⊢ <;> omega) rfl rfl
          refine sr_evg (b := false) (e := 75) rfl rfl hg117 (v := .pointer (some ⟨gb_13, 0, none⟩)) (ev_move rfl) (by decide) ?_
          refine sr_evg (b := false) (e := 75) rfl rfl hg117 (v := str user_2) (ev_move rfl) (by decide) ?_
          refine sr_evg (b := false) (e := 75) rfl rfl hg117 (v := .int .i64 now_4) (ev_move rfl) (by decide) ?_
          obtain ⟨y132, hy133, hS⟩ := bind_some' hS
          refine sr_callg (b := false) (e := 75) rfl rfl hg117 (vs := [.pointer (some ⟨gb_13, 0, none⟩), str user_2, .int .i64 now_4]) rfl Tryd.call23 rfl (device_Devices_List_ok _ (hg.fr hz hb) (ρA := ρ) hb.bd (hz.fr hg hb) (τ0 := (fun p => 200 + p)) (fun p => Nat.le_add_right_of_le (by decide)) (⟨_, hB73, h72⟩ : device_Devices.O (fun p => 200 + p) ρ w127 gb_13 ob_13) hy133) (by decide) ?_
          rintro v137 w134 ⟨_, rfl, h138, hbw135⟩
          have htr136 := Tr.of_below hbw135 hb.bd
          replace h131 := h131.mv htr136.rd
          replace hB70 := hB70.mv (htr136.mv (i := 100) rfl)
          replace h69 := h69.mv (htr136.mv (i := 101) rfl)
          replace hB73 := hB73.mv (htr136.mv (i := 200) rfl)
          replace h72 := h72.mv (htr136.mv (i := 201) rfl)
          replace hb := hb.trans htr136
          replace hj120 := (hj120.trans htr136).weak (J' := (fun _ => false)) (by intro t h; simp [rng] at h ⊢ <;> omega) rfl rfl
          obtain ⟨y139, hy140, hS⟩ := bind_some' hS
          refine sr_callg (b := false) (e := 75) rfl rfl hg117 (vs := [v130, v137]) rfl Tryd.call22 rfl (ref02_Same_ok _ (hg.fr hz hb) h131.asSl h138.asSl hy140) (by decide) ?_
          rintro _ w141 ⟨rfl, hbw142⟩
          have htr143 := Tr.of_below hbw142 hb.bd
          replace hB70 := hB70.mv (htr143.mv (i := 100) rfl)
          replace h69 := h69.mv (htr143.mv (i := 101) rfl)
          replace hB73 := hB73.mv (htr143.mv (i := 200) rfl)
          replace h72 := h72.mv (htr143.mv (i := 201) rfl)
          replace hb := hb.trans htr143
          replace hj120 := (hj120.trans htr143).weak (J' := (fun _ => false)) (by intro t h; simp [rng] at h ⊢ <;> omega) rfl rfl
          refine sr_evg (b := false) (e := 75) rfl rfl hg117 (v := .bool (!y139)) (ev_not rfl) (by decide) ?_
          refine sr_ev (v := .bool (!y139)) (ev_pick_f rfl hg117 rfl) (by decide) ?_
          exact sr_weaken (l' := [(2, str user_2), (3, str id_3), (4, .int .i64 now_4), (11, .pointer (some ⟨ga_11, 0, none⟩)), (13, .pointer (some ⟨gb_13, 0, none⟩)), (86, .bool (!y139))]) (.cons rfl (.cons rfl (.cons rfl (.cons rfl (.cons rfl (.cons rfl (.nil _))))))) (K118 (!y139) _ ⟨(Option.some.inj hS).symm, _, hj120⟩)
theorem law37_DeviceApart_ok (w0 : World) (hg : Gs w0) {ρA : Tags} (hbd : ∀ b, ρA b ≠ 0 → b < w0.heap.size) (hz : Gz ρA) {ops_0 : List law37_Op} {others_1 : List law37_Op} {user_2 : Str} {id_3 : Str} {now_4 : Int} {v1 : Value} {v3 : Value} {r : Bool} (h2 : SlR law37_Op.c (Wb ρA) w0 v1 ops_0) (h4 : SlR law37_Op.c (Wb ρA) w0 v3 others_1) (hS : law37_DeviceApart ops_0 others_1 user_2 id_3 now_4 = some r) :
    Calls Tryd.prog 5 #[v1, v3, str user_2, str id_3, .int .i64 now_4] w0 (Ret (fun v w' => v = .bool r ∧ Below w0.heap.size w0 w')) := by
  unfold law37_DeviceApart at hS
  have hb := flat1_fr (ρ := ρA) (w := w0) hbd
  have hz := hz.flat1
  replace h2 := SlR.mv h2 flat1_rd
  replace h4 := SlR.mv h4 flat1_rd
  refine calls_of_ke Tryd.func5 rfl (n := 129) rfl rfl (l := [(0, v1), (1, v3), (2, str user_2), (3, str id_3), (4, .int .i64 now_4)]) rfl ?_
  refine ke_seq ?_
  refine ke_region ?_
  refine sr_ev (v := .bool false) (ev_assign rfl) (by decide) ?_
  refine sr_end (l' := [(0, v1), (1, v3), (2, str user_2), (3, str id_3), (4, .int .i64 now_4)]) (.cons rfl (.cons rfl (.cons rfl (.cons rfl (.cons rfl (.nil _)))))) ?_
  refine ke_seq ?_
  refine ke_seq ?_
  refine ke_region ?_
  obtain ⟨y5, hy6, hS⟩ := bind_some' hS
  refine sr_call (vs := []) rfl Tryd.call8 rfl (law37_live_ok _ (hg.fr hz hb) (ρA := (flat1 ρA)) hb.bd (hz.fr hg hb) hy6) (by decide) ?_
  rintro _ w7 ⟨rfl, hbw8⟩
  have htr9 := Tr.of_below hbw8 hb.bd
  replace h2 := h2.mv htr9.rd
  replace h4 := h4.mv htr9.rd
  replace hb := hb.trans htr9
  refine sr_ev (v := .bool (!y5)) (ev_not rfl) (by decide) ?_
  refine sr_end (l' := [(0, v1), (1, v3), (2, str user_2), (3, str id_3), (4, .int .i64 now_4), (21, .bool (!y5))]) (.cons rfl (.cons rfl (.cons rfl (.cons rfl (.cons rfl (.cons rfl (.nil _))))))) ?_
  refine ke_cond (t := !y5) rfl (fun hc10 => ?_) (fun hc10 => ?_)
  · replace hS := ite_true' hS hc10
    refine ke_seq ?_
    refine ke_region ?_
    refine sr_ev (v := .bool false) (ev_assign rfl) (by decide) ?_
    refine sr_end (l' := [(10, .bool false)]) (.cons rfl (.nil _)) ?_
    cases hS
    exact ke_ret1 Tryd.func5 rfl rfl ⟨_, rfl, rfl, (hb.below (flat1_le _))⟩
  · replace hS := ite_false' hS hc10
    refine ke_skip ?_
    refine ke_seq ?_
    refine ke_seq ?_
    refine ke_region ?_
    refine sr_ev (v := v1) (ev_move rfl) (by decide) ?_
    obtain ⟨y11, hy12, hS⟩ := bind_some' hS
    refine sr_call (vs := [v1, .int .i64 12]) rfl Tryd.call9 rfl (law37_long_ok _ (hg.fr hz hb) (ρA := (flat1 ρA)) hb.bd (hz.fr hg hb) h2 hy12) (by decide) ?_
    rintro _ w13 ⟨rfl, hbw14⟩
    have htr15 := Tr.of_below hbw14 hb.bd
    replace h2 := h2.mv htr15.rd
    replace h4 := h4.mv htr15.rd
    replace hb := hb.trans htr15
    refine sr_ev (v := .bool y11) (ev_move rfl) (by decide) ?_
    obtain ⟨z18, hz20, hS⟩ := bind_some' hS
    refine sr_join (m := 3) (C := fun (z : Bool) w1 => z18 = z ∧ ∃ ρ1, Tr (flat1 ρA) w13 (fun _ => false) ρ1 w1) (l' := fun z => [(0, v1), (1, v3), (2, str user_2), (3, str id_3), (4, .int .i64 now_4), (27, .bool z)]) ?_ ?_
    · rintro _ w21 ⟨rfl, ρ22, hj19⟩
      replace h2 := h2.mv hj19.rd
      replace h4 := h4.mv hj19.rd
      replace hb := hb.trans hj19
      refine sr_ev (v := .bool z18) (ev_move rfl) (by decide) ?_
      obtain ⟨z31, hz33, hS⟩ := bind_some' hS
      refine sr_join (m := 5) (C := fun (z : Bool) w1 => z31 = z ∧ ∃ ρ1, Tr ρ22 w21 (fun _ => false) ρ1 w1) (l' := fun z => [(0, v1), (1, v3), (2, str user_2), (3, str id_3), (4, .int .i64 now_4), (33, .bool z)]) ?_ ?_
      · rintro _ w34 ⟨rfl, ρ35, hj32⟩
        replace h2 := h2.mv hj32.rd
        replace h4 := h4.mv hj32.rd
        replace hb := hb.trans hj32
        refine sr_end (l' := [(0, v1), (1, v3), (2, str user_2), (3, str id_3), (4, .int .i64 now_4), (33, .bool z31)]) (.cons rfl (.cons rfl (.cons rfl (.cons rfl (.cons rfl (.cons rfl (.nil _))))))) ?_
        refine ke_cond (t := z31) rfl (fun hc47 => ?_) (fun hc47 => ?_)
        · replace hS := ite_true' hS hc47
          refine ke_seq ?_
          refine ke_region ?_
          refine sr_ev (v := .bool true) (ev_assign rfl) (by decide) ?_
          refine sr_end (l' := [(10, .bool true)]) (.cons rfl (.nil _)) ?_
          cases hS
          exact ke_ret1 Tryd.func5 rfl rfl ⟨_, rfl, rfl, (hb.below (flat1_le _))⟩
        · replace hS := ite_false' hS hc47
          refine ke_skip ?_
          refine ke_seq ?_
          refine ke_region ?_
          refine sr_ev (v := v1) (ev_move rfl) (by decide) ?_
          obtain ⟨y48, hy49, hS⟩ := bind_some' hS
          refine sr_call (vs := [v1]) rfl Tryd.call11 rfl (law37_run_ok _ (hg.fr hz hb) (ρA := ρ35) hb.bd (hz.fr hg hb) (o := 100) (by decide) h2 hy49) (by decide) ?_
          rintro _ w50 ⟨ρ57, g53, rfl, ⟨v54, hB56, h55⟩, htr52⟩
          replace h2 := h2.mv htr52.rd
          replace h4 := h4.mv htr52.rd
          replace hb := hb.trans htr52
          replace hB56 : Blk ρ57 100 w50 g53 (.cells #[v54, .int .i64 y48.1.given] 62 (0, 0)) := hB56
          replace h55 : MapT device_key.ek device_record.c true ρ57 101 w50 v54 y48.1.records := h55
          refine sr_ev (v := .tuple #[.pointer (some ⟨g53, 0, none⟩), str y48.2]) (ev_move rfl) (by decide) ?_
          refine sr_ev (v := .pointer (some ⟨g53, 0, none⟩)) (ev_extract rfl rfl) (by decide) ?_
          refine sr_ev (v := str y48.2) (ev_extract rfl rfl) (by decide) ?_
          refine sr_ev (v := .pointer (some ⟨g53, 0, none⟩)) (ev_assign rfl) (by decide) ?_
          refine sr_ev (v := str y48.2) (ev_assign rfl) (by decide) ?_
          refine sr_end (l' := [(0, v1), (1, v3), (2, str user_2), (3, str id_3), (4, .int .i64 now_4), (11, .pointer (some ⟨g53, 0, none⟩))]) (.cons rfl (.cons rfl (.cons rfl (.cons rfl (.cons rfl (.cons rfl (.nil _))))))) ?_
          refine ke_seq ?_
          refine ke_region ?_
          refine sr_ev (v := v1) (ev_move rfl) (by decide) ?_
          obtain ⟨y58, hy59, hS⟩ := bind_some' hS
          refine sr_call (vs := [v1]) rfl Tryd.call11 rfl (law37_run_ok _ (hg.fr hz hb) (ρA := ρ57) hb.bd (hz.fr hg hb) (o := 200) (by decide) h2 hy59) (by decide) ?_
          rintro _ w60 ⟨ρ67, g63, rfl, ⟨v64, hB66, h65⟩, htr62⟩
          replace h4 := h4.mv htr62.rd
          replace hB56 := hB56.mv (htr62.mv (i := 100) rfl)
          replace h55 := h55.mv (htr62.mv (i := 101) rfl)
          replace hb := hb.trans htr62
          replace hB66 : Blk ρ67 200 w60 g63 (.cells #[v64, .int .i64 y58.1.given] 62 (0, 0)) := hB66
          replace h65 : MapT device_key.ek device_record.c true ρ67 201 w60 v64 y58.1.records := h65
          refine sr_ev (v := .tuple #[.pointer (some ⟨g63, 0, none⟩), str y58.2]) (ev_move rfl) (by decide) ?_
          refine sr_ev (v := .pointer (some ⟨g63, 0, none⟩)) (ev_extract rfl rfl) (by decide) ?_
          refine sr_ev (v := str y58.2) (ev_extract rfl rfl) (by decide) ?_
          refine sr_ev (v := .pointer (some ⟨g63, 0, none⟩)) (ev_assign rfl) (by decide) ?_
          refine sr_ev (v := str y58.2) (ev_assign rfl) (by decide) ?_
          refine sr_end (l' := [(1, v3), (2, str user_2), (3, str id_3), (4, .int .i64 now_4), (11, .pointer (some ⟨g53, 0, none⟩)), (13, .pointer (some ⟨g63, 0, none⟩)), (14, str y58.2)]) (.cons rfl (.cons rfl (.cons rfl (.cons rfl (.cons rfl (.cons rfl (.cons rfl (.nil _)))))))) ?_
          refine ke_seq ?_
          refine ke_seq ?_
          refine ke_region ?_
          refine sr_ev (v := v3) (ev_move rfl) (by decide) ?_
          refine sr_ev (v := .int .i64 (others_1.length : Int)) (ev_sllen Tryd.underlying22 rfl h4.asSl) (by decide) ?_
          refine sr_ev (v := .int .i64 0) (ev_move rfl) (by decide) ?_
          refine sr_end (l' := [(1, v3), (2, str user_2), (3, str id_3), (4, .int .i64 now_4), (11, .pointer (some ⟨g53, 0, none⟩)), (13, .pointer (some ⟨g63, 0, none⟩)), (14, str y58.2), (45, .int .i64 (others_1.length : Int)), (46, .int .i64 0)]) (.cons rfl (.cons rfl (.cons rfl (.cons rfl (.cons rfl (.cons rfl (.cons rfl (.cons rfl (.cons rfl (.nil _)))))))))) ?_
          refine ke_block ?_
          have hK := law37_DeviceApart_L1_ok hg hbd hz _ hS hb h4 ⟨_, hB56, h55⟩ ⟨_, hB66, h65⟩
          exact ke_weaken (l' := [(1, v3), (2, str user_2), (3, str id_3), (4, .int .i64 now_4), (11, .pointer (some ⟨g53, 0, none⟩)), (13, .pointer (some ⟨g63, 0, none⟩)), (14, str y58.2), (45, .int .i64 (others_1.length : Int)), (46, .int .i64 0)]) (.cons rfl (.cons rfl (.cons rfl (.cons rfl (.cons rfl (.cons rfl (.cons rfl (.cons rfl (.cons rfl (.nil _)))))))))) (ke_loop hK)
      · intro K30
        clear hS
        have hj32 : Tr ρ22 w21 (fun _ => false) ρ22 w21 := (Tr.refl hb.bd).weak (fun _ _ => rfl) rfl rfl
        rcases Bool.eq_false_or_eq_true z18 with hg29 | hg29
        · have hS := ite_true' hz33 hg29
          refine sr_pass (e := 28) rfl rfl (by rw [hg29]; rfl) (by decide) ?_
          refine sr_pass (e := 28) rfl rfl (by rw [hg29]; rfl) (by decide) ?_
          refine sr_pass (e := 28) rfl rfl (by rw [hg29]; rfl) (by decide) ?_
          refine sr_pass (e := 28) rfl rfl (by rw [hg29]; rfl) (by decide) ?_
          refine sr_ev (v := .bool true) (ev_pick_t rfl hg29 rfl) (by decide) ?_
          exact sr_weaken (l' := [(0, v1), (1, v3), (2, str user_2), (3, str id_3), (4, .int .i64 now_4), (33, .bool true)]) (.cons rfl (.cons rfl (.cons rfl (.cons rfl (.cons rfl (.cons rfl (.nil _))))))) (K30 true _ ⟨(Option.some.inj hS).symm, _, hj32⟩)
        · have hS := ite_false' hz33 hg29
          refine sr_evg (b := false) (e := 28) rfl rfl hg29 (v := str user_2) (ev_move rfl) (by decide) ?_
          refine sr_evg (b := false) (e := 28) rfl rfl hg29 (v := str id_3) (ev_move rfl) (by decide) ?_
          refine sr_unguard rfl rfl hg29 ?_
          refine sr_litT (c := strC) (ρ := ρ22) (E := 9) (xs := [user_2, id_3]) (vs := #[(0, str user_2), (1, str id_3)]) (cs := #[str user_2, str id_3]) (css := [[str user_2], [str id_3]]) rfl (fun _ => by kernel_rfl) rfl ⟨rfl, ⟨rfl, trivial⟩⟩ rfl (by decide) hb.bd (by decide) ?_
          intro v37 w39 h38 hbw41
          have htr40 := Tr.of_below hbw41 hb.bd
          replace h2 := h2.mv htr40.rd
          replace h4 := h4.mv htr40.rd
          replace hb := hb.trans htr40
          replace hj32 := (hj32.trans htr40).weak (J' := (fun _ => false)) (by intro t h; simp [rng] at h ⊢ <;> omega) rfl rfl
          obtain ⟨y42, hy43, hS⟩ := bind_some' hS
          refine sr_callg (b := false) (e := 28) rfl rfl hg29 (vs := [v37, .int .i64 2, .int .i64 300]) rfl Tryd.call10 rfl (ref02_Great_ok _ (hg.fr hz hb) h38.asSl hy43) (by decide) ?_
          rintro _ w44 ⟨rfl, hbw45⟩
          have htr46 := Tr.of_below hbw45 hb.bd
          replace h2 := h2.mv htr46.rd
          replace h4 := h4.mv htr46.rd
          replace hb := hb.trans htr46
          replace hj32 := (hj32.trans htr46).weak (J' := (fun _ => false)) (by intro t h; simp [rng] at h ⊢ <;> omega) rfl rfl
          refine sr_ev (v := .bool y42) (ev_pick_f rfl hg29 rfl) (by decide) ?_
          exact sr_weaken (l' := [(0, v1), (1, v3), (2, str user_2), (3, str id_3), (4, .int .i64 now_4), (33, .bool y42)]) (.cons rfl (.cons rfl (.cons rfl (.cons rfl (.cons rfl (.cons rfl (.nil _))))))) (K30 y42 _ ⟨(Option.some.inj hS).symm, _, hj32⟩)
    · intro K17
      clear hS
      have hj19 : Tr (flat1 ρA) w13 (fun _ => false) (flat1 ρA) w13 := (Tr.refl hb.bd).weak (fun _ _ => rfl) rfl rfl
      rcases Bool.eq_false_or_eq_true y11 with hg16 | hg16
      · have hS := ite_true' hz20 hg16
        refine sr_pass (e := 24) rfl rfl (by rw [hg16]; rfl) (by decide) ?_
        refine sr_pass (e := 24) rfl rfl (by rw [hg16]; rfl) (by decide) ?_
        refine sr_ev (v := .bool true) (ev_pick_t rfl hg16 rfl) (by decide) ?_
        exact sr_weaken (l' := [(0, v1), (1, v3), (2, str user_2), (3, str id_3), (4, .int .i64 now_4), (27, .bool true)]) (.cons rfl (.cons rfl (.cons rfl (.cons rfl (.cons rfl (.cons rfl (.nil _))))))) (K17 true _ ⟨(Option.some.inj hS).symm, _, hj19⟩)
      · have hS := ite_false' hz20 hg16
        refine sr_evg (b := false) (e := 24) rfl rfl hg16 (v := v3) (ev_move rfl) (by decide) ?_
        obtain ⟨y24, hy25, hS⟩ := bind_some' hS
        refine sr_callg (b := false) (e := 24) rfl rfl hg16 (vs := [v3, .int .i64 12]) rfl Tryd.call9 rfl (law37_long_ok _ (hg.fr hz hb) (ρA := (flat1 ρA)) hb.bd (hz.fr hg hb) h4 hy25) (by decide) ?_
        rintro _ w26 ⟨rfl, hbw27⟩
        have htr28 := Tr.of_below hbw27 hb.bd
        replace h2 := h2.mv htr28.rd
        replace h4 := h4.mv htr28.rd
        replace hb := hb.trans htr28
        replace hj19 := (hj19.trans htr28).weak (J' := (fun _ => false)) (by intro t h; simp [rng] at h ⊢ <;> omega) rfl rfl
        refine sr_ev (v := .bool y24) (ev_pick_f rfl hg16 rfl) (by decide) ?_
        exact sr_weaken (l' := [(0, v1), (1, v3), (2, str user_2), (3, str id_3), (4, .int .i64 now_4), (27, .bool y24)]) (.cons rfl (.cons rfl (.cons rfl (.cons rfl (.cons rfl (.cons rfl (.nil _))))))) (K17 y24 _ ⟨(Option.some.inj hS).symm, _, hj19⟩)

end YtangcaaneobhnaaDoor
end Go.Proofs
