/- Own work: a part of the proofs of this seat. -/
import Derived.Test.YtangcaaneobhnaaGreatDoorProg
import Derived.Test.YtangcaaneobhnaaGreatDoorShelf
import Derived.Test.YtangcaaneobhnaaGreatDoorKwGZS
import Derived.KernelRfl
import Derived.Test.YtangcaaneobhnaaGreatDoorKwGZW1
set_option linter.unusedVariables false
set_option linter.unusedSimpArgs false
set_option linter.unusedSectionVars false
set_option maxHeartbeats 8000000
set_option maxRecDepth 8000
namespace Go.Proofs
namespace YtangcaaneobhnaaGreatDoor
open Go Go.KW Go.KW.S Go.RowKit
theorem law37_live_ok (w0 : World) (hg : Gs w0) {ρA : Tags} (hbd : ∀ b, ρA b ≠ 0 → b < w0.heap.size) (hz : Gz ρA) {r : Bool} (hS : law37_live = some r) :
  Calls Tryz.prog 6 #[] w0 (Ret (fun v w' => v = .bool r ∧ Below w0.heap.size w0 w')) := by
 unfold law37_live at hS
 have hb := flat1_fr (ρ := ρA) (w := w0) hbd
 have hz := hz.flat1
 refine calls_of_ke Tryz.func6 rfl (n := 99) rfl rfl (l := []) rfl ?_
 refine ke_seq ?_
 refine ke_region ?_
 refine sr_ev (v := .bool false) (ev_assign rfl) (by decide) ?_
 refine sr_end (l' := []) (.nil _) ?_
 refine ke_seq ?_
 refine ke_region ?_
 obtain ⟨y1, hy2, hS⟩ := bind_some' hS
 refine sr_call (vs := []) rfl Tryz.call4 rfl (device_New_ok _ (hg.fr hz hb) (ρA := (flat1 ρA)) hb.bd (hz.fr hg hb) (o := 100) (by decide) hy2) (by decide) ?_
 rintro _ w3 ⟨ρ10, g6, rfl, ⟨v7, hB9, h8⟩, htr5⟩
 replace hb := hb.trans htr5
 replace hB9 : Blk ρ10 100 w3 g6 (.cells #[v7, .int .i64 y1.given] 41 (0, 0)) := hB9
 replace h8 : MapT device_key.ek device_record.c true ρ10 101 w3 v7 y1.records := h8
 refine sr_ev (v := .pointer (some ⟨g6, 0, none⟩)) (ev_assign rfl) (by decide) ?_
 refine sr_end (l' := [(1, .pointer (some ⟨g6, 0, none⟩))]) (.cons rfl (.nil _)) ?_
 refine ke_seq ?_
 refine ke_seq ?_
 refine ke_region ?_
 refine sr_ev (v := .pointer (some ⟨g6, 0, none⟩)) (ev_move rfl) (by decide) ?_
 refine sr_ev (v := .bool false) (ev_peqT_some Tryz.underlying23 rfl rfl) (by decide) ?_
 refine sr_end (l' := [(1, .pointer (some ⟨g6, 0, none⟩)), (13, .bool false)]) (.cons rfl (.cons rfl (.nil _))) ?_
 refine ke_cond (t := false) rfl (fun h => by cases h) (fun _ => ?_)
 refine ke_skip ?_
 refine ke_seq ?_
 refine ke_region ?_
 refine sr_ev (v := .pointer (some ⟨g6, 0, none⟩)) (ev_move rfl) (by decide) ?_
 obtain ⟨y11, hy12, hS⟩ := bind_some' hS
 refine sr_call (vs := [.pointer (some ⟨g6, 0, none⟩), str ([117]), str ([100]), .int .i64 5]) rfl Tryz.call12 rfl (device_Devices_Challenge_ok _ (hg.fr hz hb) (ρA := ρ10) hb.bd (hz.fr hg hb) (o := 100) (by decide) (⟨_, hB9, h8⟩ : device_Devices.O (fun p => 100 + p) ρ10 w3 g6 y1) hy12) (by decide) ?_
 rintro _ w13 ⟨ρ19, rfl, ⟨v16, hB18, h17⟩, htr15⟩
 replace hb := hb.trans htr15
 replace hB18 : Blk ρ19 100 w13 g6 (.cells #[v16, .int .i64 y11.2.2.given] 41 (0, 0)) := hB18
 replace h17 : MapT device_key.ek device_record.c true ρ19 101 w13 v16 y11.2.2.records := h17
 refine sr_ev (v := .tuple #[str y11.1, .int .i64 y11.2.1]) (ev_move rfl) (by decide) ?_
 refine sr_ev (v := str y11.1) (ev_extract rfl rfl) (by decide) ?_
 refine sr_ev (v := .int .i64 y11.2.1) (ev_extract rfl rfl) (by decide) ?_
 refine sr_ev (v := str y11.1) (ev_assign rfl) (by decide) ?_
 refine sr_ev (v := .int .i64 y11.2.1) (ev_assign rfl) (by decide) ?_
 refine sr_end (l' := [(1, .pointer (some ⟨g6, 0, none⟩)), (3, .int .i64 y11.2.1)]) (.cons rfl (.cons rfl (.nil _))) ?_
 refine ke_seq ?_
 refine ke_region ?_
 refine sr_ev (v := .pointer (some ⟨g6, 0, none⟩)) (ev_move rfl) (by decide) ?_
 obtain ⟨y20, hy21, hS⟩ := bind_some' hS
 refine sr_call (vs := [.pointer (some ⟨g6, 0, none⟩), str ([117]), str ([100]), str ([115]), .int .i64 100, .int .i64 5]) rfl Tryz.call13 rfl (device_Devices_Trust_ok _ (hg.fr hz hb) (ρA := ρ19) hb.bd (hz.fr hg hb) (o := 100) (by decide) (⟨_, hB18, h17⟩ : device_Devices.O (fun p => 100 + p) ρ19 w13 g6 y11.2.2) hy21) (by decide) ?_
 rintro _ w22 ⟨ρ28, rfl, ⟨v25, hB27, h26⟩, htr24⟩
 replace hb := hb.trans htr24
 replace hB27 : Blk ρ28 100 w22 g6 (.cells #[v25, .int .i64 y20.2.given] 41 (0, 0)) := hB27
 replace h26 : MapT device_key.ek device_record.c true ρ28 101 w22 v25 y20.2.records := h26
 refine sr_ev (v := .int .i64 y20.1) (ev_assign rfl) (by decide) ?_
 refine sr_end (l' := [(1, .pointer (some ⟨g6, 0, none⟩)), (3, .int .i64 y11.2.1), (4, .int .i64 y20.1)]) (.cons rfl (.cons rfl (.cons rfl (.nil _)))) ?_
 refine ke_seq ?_
 refine ke_region ?_
 refine sr_ev (v := .pointer (some ⟨g6, 0, none⟩)) (ev_move rfl) (by decide) ?_
 obtain ⟨y29, hy30, hS⟩ := bind_some' hS
 refine sr_call (vs := [.pointer (some ⟨g6, 0, none⟩), str ([117]), str ([100]), str ([115]), .int .i64 50, .int .i64 5]) rfl Tryz.call13 rfl (device_Devices_Trust_ok _ (hg.fr hz hb) (ρA := ρ28) hb.bd (hz.fr hg hb) (o := 100) (by decide) (⟨_, hB27, h26⟩ : device_Devices.O (fun p => 100 + p) ρ28 w22 g6 y20.2) hy30) (by decide) ?_
 rintro _ w31 ⟨ρ37, rfl, ⟨v34, hB36, h35⟩, htr33⟩
 replace hb := hb.trans htr33
 replace hB36 : Blk ρ37 100 w31 g6 (.cells #[v34, .int .i64 y29.2.given] 41 (0, 0)) := hB36
 replace h35 : MapT device_key.ek device_record.c true ρ37 101 w31 v34 y29.2.records := h35
 refine sr_ev (v := .int .i64 y29.1) (ev_assign rfl) (by decide) ?_
 refine sr_end (l' := [(1, .pointer (some ⟨g6, 0, none⟩)), (3, .int .i64 y11.2.1), (4, .int .i64 y20.1), (5, .int .i64 y29.1)]) (.cons rfl (.cons rfl (.cons rfl (.cons rfl (.nil _))))) ?_
 refine ke_seq ?_
 refine ke_region ?_
 refine sr_ev (v := .pointer (some ⟨g6, 0, none⟩)) (ev_move rfl) (by decide) ?_
 obtain ⟨y38, hy39, hS⟩ := bind_some' hS
 refine sr_call (vs := [.pointer (some ⟨g6, 0, none⟩), str ([117]), str ([100]), .int .i64 99]) rfl Tryz.call12 rfl (device_Devices_Challenge_ok _ (hg.fr hz hb) (ρA := ρ37) hb.bd (hz.fr hg hb) (o := 100) (by decide) (⟨_, hB36, h35⟩ : device_Devices.O (fun p => 100 + p) ρ37 w31 g6 y29.2) hy39) (by decide) ?_
 rintro _ w40 ⟨ρ46, rfl, ⟨v43, hB45, h44⟩, htr42⟩
 replace hb := hb.trans htr42
 replace hB45 : Blk ρ46 100 w40 g6 (.cells #[v43, .int .i64 y38.2.2.given] 41 (0, 0)) := hB45
 replace h44 : MapT device_key.ek device_record.c true ρ46 101 w40 v43 y38.2.2.records := h44
 refine sr_ev (v := .tuple #[str y38.1, .int .i64 y38.2.1]) (ev_move rfl) (by decide) ?_
 refine sr_ev (v := str y38.1) (ev_extract rfl rfl) (by decide) ?_
 refine sr_ev (v := .int .i64 y38.2.1) (ev_extract rfl rfl) (by decide) ?_
 refine sr_ev (v := str y38.1) (ev_assign rfl) (by decide) ?_
 refine sr_ev (v := .int .i64 y38.2.1) (ev_assign rfl) (by decide) ?_
 refine sr_end (l' := [(1, .pointer (some ⟨g6, 0, none⟩)), (3, .int .i64 y11.2.1), (4, .int .i64 y20.1), (5, .int .i64 y29.1), (6, str y38.1), (7, .int .i64 y38.2.1)]) (.cons rfl (.cons rfl (.cons rfl (.cons rfl (.cons rfl (.cons rfl (.nil _))))))) ?_
 refine ke_seq ?_
 refine ke_region ?_
 refine sr_ev (v := .pointer (some ⟨g6, 0, none⟩)) (ev_move rfl) (by decide) ?_
 refine sr_ev (v := str y38.1) (ev_move rfl) (by decide) ?_
 obtain ⟨y47, hy48, hS⟩ := bind_some' hS
 refine sr_call (vs := [str ([115]), str y38.1]) rfl Tryz.call15 rfl (device_Answer_ok _ (hg.fr hz hb) hy48) (by decide) ?_
 rintro _ w49 ⟨rfl, hbw50⟩
 have htr51 := Tr.of_below hbw50 hb.bd
 replace hB45 := hB45.mv (htr51.mv (i := 100) rfl)
 replace h44 := h44.mv (htr51.mv (i := 101) rfl)
 replace hb := hb.trans htr51
 obtain ⟨y52, hy53, hS⟩ := bind_some' hS
 refine sr_call (vs := [.pointer (some ⟨g6, 0, none⟩), str ([117]), str ([100]), str y47, .int .i64 99]) rfl Tryz.call14 rfl (device_Devices_Prove_ok _ (hg.fr hz hb) (ρA := ρ46) hb.bd (hz.fr hg hb) (o := 100) (by decide) (⟨_, hB45, h44⟩ : device_Devices.O (fun p => 100 + p) ρ46 w49 g6 y38.2.2) hy53) (by decide) ?_
 rintro _ w54 ⟨ρ60, rfl, ⟨v57, hB59, h58⟩, htr56⟩
 replace hb := hb.trans htr56
 replace hB59 : Blk ρ60 100 w54 g6 (.cells #[v57, .int .i64 y52.2.given] 41 (0, 0)) := hB59
 replace h58 : MapT device_key.ek device_record.c true ρ60 101 w54 v57 y52.2.records := h58
 refine sr_ev (v := .int .i64 y52.1) (ev_assign rfl) (by decide) ?_
 refine sr_end (l' := [(1, .pointer (some ⟨g6, 0, none⟩)), (3, .int .i64 y11.2.1), (4, .int .i64 y20.1), (5, .int .i64 y29.1), (6, str y38.1), (7, .int .i64 y38.2.1), (8, .int .i64 y52.1)]) (.cons rfl (.cons rfl (.cons rfl (.cons rfl (.cons rfl (.cons rfl (.cons rfl (.nil _)))))))) ?_
 refine ke_seq ?_
 refine ke_region ?_
 refine sr_ev (v := .pointer (some ⟨g6, 0, none⟩)) (ev_move rfl) (by decide) ?_
 refine sr_ev (v := str y38.1) (ev_move rfl) (by decide) ?_
 obtain ⟨y61, hy62, hS⟩ := bind_some' hS
 refine sr_call (vs := [str ([115]), str y38.1]) rfl Tryz.call15 rfl (device_Answer_ok _ (hg.fr hz hb) hy62) (by decide) ?_
 rintro _ w63 ⟨rfl, hbw64⟩
 have htr65 := Tr.of_below hbw64 hb.bd
 replace hB59 := hB59.mv (htr65.mv (i := 100) rfl)
 replace h58 := h58.mv (htr65.mv (i := 101) rfl)
 replace hb := hb.trans htr65
 obtain ⟨y66, hy67, hS⟩ := bind_some' hS
 refine sr_call (vs := [.pointer (some ⟨g6, 0, none⟩), str ([117]), str ([100]), str y61, .int .i64 99]) rfl Tryz.call14 rfl (device_Devices_Prove_ok _ (hg.fr hz hb) (ρA := ρ60) hb.bd (hz.fr hg hb) (o := 100) (by decide) (⟨_, hB59, h58⟩ : device_Devices.O (fun p => 100 + p) ρ60 w63 g6 y52.2) hy67) (by decide) ?_
 rintro _ w68 ⟨ρ74, rfl, ⟨v71, hB73, h72⟩, htr70⟩
 replace hb := hb.trans htr70
 replace hB73 : Blk ρ74 100 w68 g6 (.cells #[v71, .int .i64 y66.2.given] 41 (0, 0)) := hB73
 replace h72 : MapT device_key.ek device_record.c true ρ74 101 w68 v71 y66.2.records := h72
 refine sr_ev (v := .int .i64 y66.1) (ev_assign rfl) (by decide) ?_
 refine sr_end (l' := [(1, .pointer (some ⟨g6, 0, none⟩)), (3, .int .i64 y11.2.1), (4, .int .i64 y20.1), (5, .int .i64 y29.1), (6, str y38.1), (7, .int .i64 y38.2.1), (8, .int .i64 y52.1), (9, .int .i64 y66.1)]) (.cons rfl (.cons rfl (.cons rfl (.cons rfl (.cons rfl (.cons rfl (.cons rfl (.cons rfl (.nil _))))))))) ?_
 refine ke_seq ?_
 refine ke_region ?_
 refine sr_ev (v := .pointer (some ⟨g6, 0, none⟩)) (ev_move rfl) (by decide) ?_
 obtain ⟨y75, hy76, hS⟩ := bind_some' hS
 refine sr_call (vs := [.pointer (some ⟨g6, 0, none⟩), str ([117]), str ([100]), str ([115]), .int .i64 5, .int .i64 5]) rfl Tryz.call13 rfl (device_Devices_Trust_ok _ (hg.fr hz hb) (ρA := ρ74) hb.bd (hz.fr hg hb) (o := 100) (by decide) (⟨_, hB73, h72⟩ : device_Devices.O (fun p => 100 + p) ρ74 w68 g6 y66.2) hy76) (by decide) ?_
 rintro _ w77 ⟨ρ83, rfl, ⟨v80, hB82, h81⟩, htr79⟩
 replace hb := hb.trans htr79
 replace hB82 : Blk ρ83 100 w77 g6 (.cells #[v80, .int .i64 y75.2.given] 41 (0, 0)) := hB82
 replace h81 : MapT device_key.ek device_record.c true ρ83 101 w77 v80 y75.2.records := h81
 refine sr_ev (v := .int .i64 y75.1) (ev_assign rfl) (by decide) ?_
 refine sr_end (l' := [(1, .pointer (some ⟨g6, 0, none⟩)), (3, .int .i64 y11.2.1), (4, .int .i64 y20.1), (5, .int .i64 y29.1), (6, str y38.1), (7, .int .i64 y38.2.1), (8, .int .i64 y52.1), (9, .int .i64 y66.1), (10, .int .i64 y75.1)]) (.cons rfl (.cons rfl (.cons rfl (.cons rfl (.cons rfl (.cons rfl (.cons rfl (.cons rfl (.cons rfl (.nil _)))))))))) ?_
 refine ke_seq ?_
 refine ke_region ?_
 refine sr_ev (v := .int .i64 y11.2.1) (ev_move rfl) (by decide) ?_
 refine sr_ev (v := .bool (y11.2.1 == 6)) (ev_eq rfl rfl) (by decide) ?_
 refine sr_ev (v := .bool (y11.2.1 == 6)) (ev_move rfl) (by decide) ?_
 refine sr_join (m := 3) (C := fun (x : Bool) w1 => x = ((y11.2.1 == 6) && (y20.1 == 0)) ∧ w77 = w1) (l' := fun x => [(1, .pointer (some ⟨g6, 0, none⟩)), (5, .int .i64 y29.1), (6, str y38.1), (7, .int .i64 y38.2.1), (8, .int .i64 y52.1), (9, .int .i64 y66.1), (10, .int .i64 y75.1), (43, .bool x)]) ?_ ?_
 ·rintro _ _ ⟨rfl, rfl⟩
  refine sr_ev (v := .bool ((y11.2.1 == 6) && (y20.1 == 0))) (ev_move rfl) (by decide) ?_
  refine sr_join (m := 3) (C := fun (x : Bool) w1 => x = (((y11.2.1 == 6) && (y20.1 == 0)) && (y29.1 == 0)) ∧ w77 = w1) (l' := fun x => [(1, .pointer (some ⟨g6, 0, none⟩)), (6, str y38.1), (7, .int .i64 y38.2.1), (8, .int .i64 y52.1), (9, .int .i64 y66.1), (10, .int .i64 y75.1), (47, .bool x)]) ?_ ?_
  ·rintro _ _ ⟨rfl, rfl⟩
   refine sr_ev (v := .bool (((y11.2.1 == 6) && (y20.1 == 0)) && (y29.1 == 0))) (ev_move rfl) (by decide) ?_
   refine sr_join (m := 3) (C := fun (x : Bool) w1 => x = ((((y11.2.1 == 6) && (y20.1 == 0)) && (y29.1 == 0)) && (y38.2.1 == 0)) ∧ w77 = w1) (l' := fun x => [(1, .pointer (some ⟨g6, 0, none⟩)), (6, str y38.1), (8, .int .i64 y52.1), (9, .int .i64 y66.1), (10, .int .i64 y75.1), (51, .bool x)]) ?_ ?_
   ·rintro _ _ ⟨rfl, rfl⟩
    refine sr_ev (v := .bool ((((y11.2.1 == 6) && (y20.1 == 0)) && (y29.1 == 0)) && (y38.2.1 == 0))) (ev_move rfl) (by decide) ?_
    obtain ⟨z110, hz112, hS⟩ := bind_some' hS
    refine sr_join (m := 4) (C := fun (z : Bool) w1 => z110 = z ∧ ∃ ρ1, Tr ρ83 w77 (fun _ => false) ρ1 w1) (l' := fun z => [(1, .pointer (some ⟨g6, 0, none⟩)), (8, .int .i64 y52.1), (9, .int .i64 y66.1), (10, .int .i64 y75.1), (56, .bool z)]) ?_ ?_
    ·rintro _ w113 ⟨rfl, ρ114, hj111⟩
     replace hB82 := hB82.mv (hj111.mv (i := 100) rfl)
     replace h81 := h81.mv (hj111.mv (i := 101) rfl)
     replace hb := hb.trans hj111
     refine sr_ev (v := .bool z110) (ev_move rfl) (by decide) ?_
     refine sr_join (m := 3) (C := fun (x : Bool) w1 => x = (z110 && (y52.1 == 0)) ∧ w113 = w1) (l' := fun x => [(1, .pointer (some ⟨g6, 0, none⟩)), (9, .int .i64 y66.1), (10, .int .i64 y75.1), (60, .bool x)]) ?_ ?_
     ·rintro _ _ ⟨rfl, rfl⟩
      refine sr_ev (v := .bool (z110 && (y52.1 == 0))) (ev_move rfl) (by decide) ?_
      refine sr_join (m := 3) (C := fun (x : Bool) w1 => x = ((z110 && (y52.1 == 0)) && (y66.1 == 12)) ∧ w113 = w1) (l' := fun x => [(1, .pointer (some ⟨g6, 0, none⟩)), (10, .int .i64 y75.1), (64, .bool x)]) ?_ ?_
      ·rintro _ _ ⟨rfl, rfl⟩
       refine sr_ev (v := .bool ((z110 && (y52.1 == 0)) && (y66.1 == 12))) (ev_move rfl) (by decide) ?_
       refine sr_join (m := 3) (C := fun (x : Bool) w1 => x = (((z110 && (y52.1 == 0)) && (y66.1 == 12)) && (y75.1 == 13)) ∧ w113 = w1) (l' := fun x => [(1, .pointer (some ⟨g6, 0, none⟩)), (68, .bool x)]) ?_ ?_
       ·rintro _ _ ⟨rfl, rfl⟩
        refine sr_ev (v := .bool (((z110 && (y52.1 == 0)) && (y66.1 == 12)) && (y75.1 == 13))) (ev_move rfl) (by decide) ?_
        obtain ⟨z147, hz149, hS⟩ := bind_some' hS
        refine sr_join (m := 3) (C := fun (z : Bool) w1 => z147 = z ∧ ∃ ρ1, Tr ρ114 w113 (fun _ => false) ρ1 w1) (l' := fun z => [(1, .pointer (some ⟨g6, 0, none⟩)), (72, .bool z)]) ?_ ?_
        ·rintro _ w150 ⟨rfl, ρ151, hj148⟩
         replace hB82 := hB82.mv (hj148.mv (i := 100) rfl)
         replace h81 := h81.mv (hj148.mv (i := 101) rfl)
         replace hb := hb.trans hj148
         refine sr_ev (v := .bool z147) (ev_move rfl) (by decide) ?_
         obtain ⟨z160, hz162, hS⟩ := bind_some' hS
         refine sr_join (m := 4) (C := fun (z : Bool) w1 => z160 = z ∧ ∃ ρ1, Tr ρ151 w150 (fun _ => false) ρ1 w1) (l' := fun z => [(1, .pointer (some ⟨g6, 0, none⟩)), (77, .bool z)]) ?_ ?_
         ·rintro _ w163 ⟨rfl, ρ164, hj161⟩
          replace hB82 := hB82.mv (hj161.mv (i := 100) rfl)
          replace h81 := h81.mv (hj161.mv (i := 101) rfl)
          replace hb := hb.trans hj161
          refine sr_ev (v := .bool z160) (ev_move rfl) (by decide) ?_
          obtain ⟨z173, hz175, hS⟩ := bind_some' hS
          refine sr_join (m := 5) (C := fun (z : Bool) w1 => z173 = z ∧ ∃ ρ1, Tr ρ164 w163 (fun _ => false) ρ1 w1) (l' := fun z => [(1, .pointer (some ⟨g6, 0, none⟩)), (83, .bool z)]) ?_ ?_
          ·rintro _ w176 ⟨rfl, ρ177, hj174⟩
           replace hB82 := hB82.mv (hj174.mv (i := 100) rfl)
           replace h81 := h81.mv (hj174.mv (i := 101) rfl)
           replace hb := hb.trans hj174
           refine sr_ev (v := .bool z173) (ev_move rfl) (by decide) ?_
           obtain ⟨z198, hz200, hS⟩ := bind_some' hS
           refine sr_join (m := 4) (C := fun (z : Bool × device_Devices) w1 => z198 = z ∧ ∃ ρ1, device_Devices.O (fun p => 100 + p) ρ1 w1 g6 z.2 ∧ Tr ρ177 w176 (fun t => ([100, 101] : List Nat).contains t) ρ1 w1) (l' := fun z => [(1, .pointer (some ⟨g6, 0, none⟩)), (88, .bool z.1)]) ?_ ?_
           ·rintro _ w201 ⟨rfl, ρ202, ⟨v213, hB215, h214⟩, hj199⟩
            replace hb := hb.trans hj199
            replace hB215 : Blk ρ202 100 w201 g6 (.cells #[v213, .int .i64 z198.2.given] 41 (0, 0)) := hB215
            replace h214 : MapT device_key.ek device_record.c true ρ202 101 w201 v213 z198.2.records := h214
            refine sr_ev (v := .bool z198.1) (ev_move rfl) (by decide) ?_
            obtain ⟨z218, hz220, hS⟩ := bind_some' hS
            refine sr_join (m := 4) (C := fun (z : Bool × device_Devices) w1 => z218 = z ∧ ∃ ρ1, device_Devices.O (fun p => 100 + p) ρ1 w1 g6 z.2 ∧ Tr ρ202 w201 (fun t => ([100, 101] : List Nat).contains t) ρ1 w1) (l' := fun z => [(93, .bool z.1)]) ?_ ?_
            ·rintro _ w221 ⟨rfl, ρ222, ⟨v233, hB235, h234⟩, hj219⟩
             replace hb := hb.trans hj219
             replace hB235 : Blk ρ222 100 w221 g6 (.cells #[v233, .int .i64 z218.2.given] 41 (0, 0)) := hB235
             replace h234 : MapT device_key.ek device_record.c true ρ222 101 w221 v233 z218.2.records := h234
             refine sr_ev (v := .bool z218.1) (ev_move rfl) (by decide) ?_
             obtain ⟨z238, hz240, hS⟩ := bind_some' hS
             refine sr_join (m := 4) (C := fun (z : Bool) w1 => z238 = z ∧ ∃ ρ1, Tr ρ222 w221 (fun _ => false) ρ1 w1) (l' := fun z => [(98, .bool z)]) ?_ ?_
             ·rintro _ w241 ⟨rfl, ρ242, hj239⟩
              replace hb := hb.trans hj239
              refine sr_ev (v := .bool z238) (ev_assign rfl) (by decide) ?_
              refine sr_end (l' := [(0, .bool z238)]) (.cons rfl (.nil _)) ?_
              cases hS
              exact ke_ret1 Tryz.func6 rfl rfl ⟨_, rfl, rfl, (hb.below (flat1_le _))⟩
             ·intro K237
              clear hS
              have hj239 : Tr ρ222 w221 (fun _ => false) ρ222 w221 := (Tr.refl hb.bd).weak (fun _ _ => rfl) rfl rfl
              rcases Bool.eq_false_or_eq_true z218.1 with hg236 | hg236
              ·have hS := ite_true' hz240 hg236
               obtain ⟨y244, hy245, hS⟩ := bind_some' hS
               refine sr_callg (b := true) (e := 94) rfl rfl hg236 (vs := [str ([115]), str ([99])]) rfl Tryz.call15 rfl (device_Answer_ok _ (hg.fr hz hb) hy245) (by decide) ?_
               rintro _ w246 ⟨rfl, hbw247⟩
               have htr248 := Tr.of_below hbw247 hb.bd
               replace hb := hb.trans htr248
               replace hj239 := (hj239.trans htr248).weak (J' := (fun _ => false)) (by intro t h; simp [rng] at h ⊢ <;> omega) rfl rfl
               obtain ⟨y249, hy250, hS⟩ := bind_some' hS
               refine sr_callg (b := true) (e := 94) rfl rfl hg236 (vs := [str ([115]), str ([99])]) rfl Tryz.call21 rfl (digest_Mac_ok _ (hg.fr hz hb) hy250) (by decide) ?_
               rintro _ w251 ⟨rfl, hbw252⟩
               have htr253 := Tr.of_below hbw252 hb.bd
               replace hb := hb.trans htr253
               replace hj239 := (hj239.trans htr253).weak (J' := (fun _ => false)) (by intro t h; simp [rng] at h ⊢ <;> omega) rfl rfl
               refine sr_evg (b := true) (e := 94) rfl rfl hg236 (v := .bool (y244 == y249)) (ev_seq rfl rfl) (by decide) ?_
               refine sr_ev (v := .bool (y244 == y249)) (ev_pick_t rfl hg236 rfl) (by decide) ?_
               exact sr_weaken (l' := [(98, .bool (y244 == y249))]) (.cons rfl (.nil _)) (K237 (y244 == y249) _ ⟨(Option.some.inj hS).symm, _, hj239⟩)
              ·have hS := ite_false' hz240 hg236
               refine sr_pass (e := 94) rfl rfl (by rw [hg236]; rfl) (by decide) ?_
               refine sr_pass (e := 94) rfl rfl (by rw [hg236]; rfl) (by decide) ?_
               refine sr_pass (e := 94) rfl rfl (by rw [hg236]; rfl) (by decide) ?_
               refine sr_ev (v := .bool false) (ev_pick_f rfl hg236 rfl) (by decide) ?_
               exact sr_weaken (l' := [(98, .bool false)]) (.cons rfl (.nil _)) (K237 false _ ⟨(Option.some.inj hS).symm, _, hj239⟩)
            ·intro K217
             clear hS
             have hj219 : Tr ρ202 w201 (fun t => ([100, 101] : List Nat).contains t) ρ202 w201 := (Tr.refl hb.bd).weak (fun _ _ => rfl) rfl rfl
             rcases Bool.eq_false_or_eq_true z198.1 with hg216 | hg216
             ·have hS := ite_true' hz220 hg216
              refine sr_evg (b := true) (e := 89) rfl rfl hg216 (v := .pointer (some ⟨g6, 0, none⟩)) (ev_move rfl) (by decide) ?_
              obtain ⟨y224, hy225, hS⟩ := bind_some' hS
              refine sr_callg (b := true) (e := 89) rfl rfl hg216 (vs := [.pointer (some ⟨g6, 0, none⟩), str ([117]), str ([100])]) rfl Tryz.call20 rfl (device_Devices_Revoke_ok _ (hg.fr hz hb) (ρA := ρ202) hb.bd (hz.fr hg hb) (o := 100) (by decide) (⟨_, hB215, h214⟩ : device_Devices.O (fun p => 100 + p) ρ202 w201 g6 z198.2) hy225) (by decide) ?_
              rintro _ w226 ⟨ρ232, rfl, ⟨v229, hB231, h230⟩, htr228⟩
              replace hb := hb.trans htr228
              replace hj219 := (hj219.trans htr228).weak (J' := (fun t => ([100, 101] : List Nat).contains t)) (by intro t h; simp [rng] at h ⊢ <;> omega) rfl rfl
              replace hB231 : Blk ρ232 100 w226 g6 (.cells #[v229, .int .i64 y224.2.given] 41 (0, 0)) := hB231
              replace h230 : MapT device_key.ek device_record.c true ρ232 101 w226 v229 y224.2.records := h230
              refine sr_evg (b := true) (e := 89) rfl rfl hg216 (v := .bool (!y224.1)) (ev_not rfl) (by decide) ?_
              refine sr_ev (v := .bool (!y224.1)) (ev_pick_t rfl hg216 rfl) (by decide) ?_
              exact sr_weaken (l' := [(93, .bool (!y224.1))]) (.cons rfl (.nil _)) (K217 (!y224.1, y224.2) _ ⟨(Option.some.inj hS).symm, _, ⟨_, hB231, h230⟩, hj219⟩)
             ·have hS := ite_false' hz220 hg216
              refine sr_pass (e := 89) rfl rfl (by rw [hg216]; rfl) (by decide) ?_
              refine sr_pass (e := 89) rfl rfl (by rw [hg216]; rfl) (by decide) ?_
              refine sr_pass (e := 89) rfl rfl (by rw [hg216]; rfl) (by decide) ?_
              refine sr_ev (v := .bool false) (ev_pick_f rfl hg216 rfl) (by decide) ?_
              exact sr_weaken (l' := [(93, .bool false)]) (.cons rfl (.nil _)) (K217 (false, z198.2) _ ⟨(Option.some.inj hS).symm, _, ⟨_, hB215, h214⟩, hj219⟩)
           ·intro K197
            clear hS
            have hj199 : Tr ρ177 w176 (fun t => ([100, 101] : List Nat).contains t) ρ177 w176 := (Tr.refl hb.bd).weak (fun _ _ => rfl) rfl rfl
            rcases Bool.eq_false_or_eq_true z173 with hg196 | hg196
            ·have hS := ite_true' hz200 hg196
             refine sr_evg (b := true) (e := 84) rfl rfl hg196 (v := .pointer (some ⟨g6, 0, none⟩)) (ev_move rfl) (by decide) ?_
             obtain ⟨y204, hy205, hS⟩ := bind_some' hS
             refine sr_callg (b := true) (e := 84) rfl rfl hg196 (vs := [.pointer (some ⟨g6, 0, none⟩), str ([117])]) rfl Tryz.call19 rfl (device_Devices_Drop_ok _ (hg.fr hz hb) (ρA := ρ177) hb.bd (hz.fr hg hb) (o := 100) (by decide) (⟨_, hB82, h81⟩ : device_Devices.O (fun p => 100 + p) ρ177 w176 g6 y75.2) hy205) (by decide) ?_
             rintro _ w206 ⟨ρ212, rfl, ⟨v209, hB211, h210⟩, htr208⟩
             replace hb := hb.trans htr208
             replace hj199 := (hj199.trans htr208).weak (J' := (fun t => ([100, 101] : List Nat).contains t)) (by intro t h; simp [rng] at h ⊢ <;> omega) rfl rfl
             replace hB211 : Blk ρ212 100 w206 g6 (.cells #[v209, .int .i64 y204.2.given] 41 (0, 0)) := hB211
             replace h210 : MapT device_key.ek device_record.c true ρ212 101 w206 v209 y204.2.records := h210
             refine sr_evg (b := true) (e := 84) rfl rfl hg196 (v := .bool (y204.1 == 1)) (ev_eq rfl rfl) (by decide) ?_
             refine sr_ev (v := .bool (y204.1 == 1)) (ev_pick_t rfl hg196 rfl) (by decide) ?_
             exact sr_weaken (l' := [(1, .pointer (some ⟨g6, 0, none⟩)), (88, .bool (y204.1 == 1))]) (.cons rfl (.cons rfl (.nil _))) (K197 (y204.1 == 1, y204.2) _ ⟨(Option.some.inj hS).symm, _, ⟨_, hB211, h210⟩, hj199⟩)
            ·have hS := ite_false' hz200 hg196
             refine sr_pass (e := 84) rfl rfl (by rw [hg196]; rfl) (by decide) ?_
             refine sr_pass (e := 84) rfl rfl (by rw [hg196]; rfl) (by decide) ?_
             refine sr_pass (e := 84) rfl rfl (by rw [hg196]; rfl) (by decide) ?_
             refine sr_ev (v := .bool false) (ev_pick_f rfl hg196 rfl) (by decide) ?_
             exact sr_weaken (l' := [(1, .pointer (some ⟨g6, 0, none⟩)), (88, .bool false)]) (.cons rfl (.cons rfl (.nil _))) (K197 (false, y75.2) _ ⟨(Option.some.inj hS).symm, _, ⟨_, hB82, h81⟩, hj199⟩)
          ·intro K172
           clear hS
           have hj174 : Tr ρ164 w163 (fun _ => false) ρ164 w163 := (Tr.refl hb.bd).weak (fun _ _ => rfl) rfl rfl
           rcases Bool.eq_false_or_eq_true z160 with hg171 | hg171
           ·have hS := ite_true' hz175 hg171
            refine sr_evg (b := true) (e := 78) rfl rfl hg171 (v := .pointer (some ⟨g6, 0, none⟩)) (ev_move rfl) (by decide) ?_
            obtain ⟨y179, hy180, hS⟩ := bind_some' hS
            refine sr_callg (b := true) (e := 78) rfl rfl hg171 (vs := [.pointer (some ⟨g6, 0, none⟩), str ([117]), .int .i64 99]) rfl Tryz.call18 rfl (device_Devices_List_ok _ (hg.fr hz hb) (ρA := ρ164) hb.bd (hz.fr hg hb) (τ0 := (fun p => 100 + p)) (fun p => Nat.le_add_right_of_le (by decide)) (⟨_, hB82, h81⟩ : device_Devices.O (fun p => 100 + p) ρ164 w163 g6 y75.2) hy180) (by decide) ?_
            rintro v184 w181 ⟨_, rfl, h185, hbw182⟩
            have htr183 := Tr.of_below hbw182 hb.bd
            replace hB82 := hB82.mv (htr183.mv (i := 100) rfl)
            replace h81 := h81.mv (htr183.mv (i := 101) rfl)
            replace hb := hb.trans htr183
            replace hj174 := (hj174.trans htr183).weak (J' := (fun _ => false)) (by intro t h; simp [rng] at h ⊢ <;> omega) rfl rfl
            refine sr_unguard rfl rfl hg171 ?_
            refine sr_litT (c := strC) (ρ := ρ164) (E := 9) (xs := [[100]]) (vs := #[(0, str ([100]))]) (cs := #[str ([100])]) (css := [[str ([100])]]) rfl (fun _ => by kernel_rfl) rfl ⟨rfl, trivial⟩ rfl (by decide) hb.bd (by decide) ?_
            intro v186 w188 h187 hbw190
            have htr189 := Tr.of_below hbw190 hb.bd
            replace h185 := h185.mv htr189.rd
            replace hB82 := hB82.mv (htr189.mv (i := 100) rfl)
            replace h81 := h81.mv (htr189.mv (i := 101) rfl)
            replace hb := hb.trans htr189
            replace hj174 := (hj174.trans htr189).weak (J' := (fun _ => false)) (by intro t h; simp [rng] at h ⊢ <;> omega) rfl rfl
            obtain ⟨y191, hy192, hS⟩ := bind_some' hS
            refine sr_callg (b := true) (e := 78) rfl rfl hg171 (vs := [v184, v186]) rfl Tryz.call10 rfl (ref02_Same_ok _ (hg.fr hz hb) h185.asSl h187.asSl hy192) (by decide) ?_
            rintro _ w193 ⟨rfl, hbw194⟩
            have htr195 := Tr.of_below hbw194 hb.bd
            replace hB82 := hB82.mv (htr195.mv (i := 100) rfl)
            replace h81 := h81.mv (htr195.mv (i := 101) rfl)
            replace hb := hb.trans htr195
            replace hj174 := (hj174.trans htr195).weak (J' := (fun _ => false)) (by intro t h; simp [rng] at h ⊢ <;> omega) rfl rfl
            refine sr_ev (v := .bool y191) (ev_pick_t rfl hg171 rfl) (by decide) ?_
            exact sr_weaken (l' := [(1, .pointer (some ⟨g6, 0, none⟩)), (83, .bool y191)]) (.cons rfl (.cons rfl (.nil _))) (K172 y191 _ ⟨(Option.some.inj hS).symm, _, hj174⟩)
           ·have hS := ite_false' hz175 hg171
            refine sr_pass (e := 78) rfl rfl (by rw [hg171]; rfl) (by decide) ?_
            refine sr_pass (e := 78) rfl rfl (by rw [hg171]; rfl) (by decide) ?_
            refine sr_pass (e := 78) rfl rfl (by rw [hg171]; rfl) (by decide) ?_
            refine sr_pass (e := 78) rfl rfl (by rw [hg171]; rfl) (by decide) ?_
            refine sr_ev (v := .bool false) (ev_pick_f rfl hg171 rfl) (by decide) ?_
            exact sr_weaken (l' := [(1, .pointer (some ⟨g6, 0, none⟩)), (83, .bool false)]) (.cons rfl (.cons rfl (.nil _))) (K172 false _ ⟨(Option.some.inj hS).symm, _, hj174⟩)
         ·intro K159
          clear hS
          have hj161 : Tr ρ151 w150 (fun _ => false) ρ151 w150 := (Tr.refl hb.bd).weak (fun _ _ => rfl) rfl rfl
          rcases Bool.eq_false_or_eq_true z147 with hg158 | hg158
          ·have hS := ite_true' hz162 hg158
           refine sr_evg (b := true) (e := 73) rfl rfl hg158 (v := .pointer (some ⟨g6, 0, none⟩)) (ev_move rfl) (by decide) ?_
           obtain ⟨y166, hy167, hS⟩ := bind_some' hS
           refine sr_callg (b := true) (e := 73) rfl rfl hg158 (vs := [.pointer (some ⟨g6, 0, none⟩), str ([117]), str ([100]), .int .i64 100]) rfl Tryz.call17 rfl (device_Devices_Trusted_ok _ (hg.fr hz hb) (ρA := ρ151) hb.bd (hz.fr hg hb) (τ0 := (fun p => 100 + p)) (fun p => Nat.le_add_right_of_le (by decide)) (⟨_, hB82, h81⟩ : device_Devices.O (fun p => 100 + p) ρ151 w150 g6 y75.2) hy167) (by decide) ?_
           rintro _ w168 ⟨rfl, hbw169⟩
           have htr170 := Tr.of_below hbw169 hb.bd
           replace hB82 := hB82.mv (htr170.mv (i := 100) rfl)
           replace h81 := h81.mv (htr170.mv (i := 101) rfl)
           replace hb := hb.trans htr170
           replace hj161 := (hj161.trans htr170).weak (J' := (fun _ => false)) (by intro t h; simp [rng] at h ⊢ <;> omega) rfl rfl
           refine sr_evg (b := true) (e := 73) rfl rfl hg158 (v := .bool (!y166)) (ev_not rfl) (by decide) ?_
           refine sr_ev (v := .bool (!y166)) (ev_pick_t rfl hg158 rfl) (by decide) ?_
           exact sr_weaken (l' := [(1, .pointer (some ⟨g6, 0, none⟩)), (77, .bool (!y166))]) (.cons rfl (.cons rfl (.nil _))) (K159 (!y166) _ ⟨(Option.some.inj hS).symm, _, hj161⟩)
          ·have hS := ite_false' hz162 hg158
           refine sr_pass (e := 73) rfl rfl (by rw [hg158]; rfl) (by decide) ?_
           refine sr_pass (e := 73) rfl rfl (by rw [hg158]; rfl) (by decide) ?_
           refine sr_pass (e := 73) rfl rfl (by rw [hg158]; rfl) (by decide) ?_
           refine sr_ev (v := .bool false) (ev_pick_f rfl hg158 rfl) (by decide) ?_
           exact sr_weaken (l' := [(1, .pointer (some ⟨g6, 0, none⟩)), (77, .bool false)]) (.cons rfl (.cons rfl (.nil _))) (K159 false _ ⟨(Option.some.inj hS).symm, _, hj161⟩)
        ·intro K146
         clear hS
         have hj148 : Tr ρ114 w113 (fun _ => false) ρ114 w113 := (Tr.refl hb.bd).weak (fun _ _ => rfl) rfl rfl
         rcases Bool.eq_false_or_eq_true (((z110 && (y52.1 == 0)) && (y66.1 == 12)) && (y75.1 == 13)) with hg145 | hg145
         ·have hS := ite_true' hz149 hg145
          refine sr_evg (b := true) (e := 69) rfl rfl hg145 (v := .pointer (some ⟨g6, 0, none⟩)) (ev_move rfl) (by decide) ?_
          obtain ⟨y153, hy154, hS⟩ := bind_some' hS
          refine sr_callg (b := true) (e := 69) rfl rfl hg145 (vs := [.pointer (some ⟨g6, 0, none⟩), str ([117]), str ([100]), .int .i64 99]) rfl Tryz.call17 rfl (device_Devices_Trusted_ok _ (hg.fr hz hb) (ρA := ρ114) hb.bd (hz.fr hg hb) (τ0 := (fun p => 100 + p)) (fun p => Nat.le_add_right_of_le (by decide)) (⟨_, hB82, h81⟩ : device_Devices.O (fun p => 100 + p) ρ114 w113 g6 y75.2) hy154) (by decide) ?_
          rintro _ w155 ⟨rfl, hbw156⟩
          have htr157 := Tr.of_below hbw156 hb.bd
          replace hB82 := hB82.mv (htr157.mv (i := 100) rfl)
          replace h81 := h81.mv (htr157.mv (i := 101) rfl)
          replace hb := hb.trans htr157
          replace hj148 := (hj148.trans htr157).weak (J' := (fun _ => false)) (by intro t h; simp [rng] at h ⊢ <;> omega) rfl rfl
          refine sr_ev (v := .bool y153) (ev_pick_t rfl hg145 rfl) (by decide) ?_
          exact sr_weaken (l' := [(1, .pointer (some ⟨g6, 0, none⟩)), (72, .bool y153)]) (.cons rfl (.cons rfl (.nil _))) (K146 y153 _ ⟨(Option.some.inj hS).symm, _, hj148⟩)
         ·have hS := ite_false' hz149 hg145
          refine sr_pass (e := 69) rfl rfl (by rw [hg145]; rfl) (by decide) ?_
          refine sr_pass (e := 69) rfl rfl (by rw [hg145]; rfl) (by decide) ?_
          refine sr_ev (v := .bool false) (ev_pick_f rfl hg145 rfl) (by decide) ?_
          exact sr_weaken (l' := [(1, .pointer (some ⟨g6, 0, none⟩)), (72, .bool false)]) (.cons rfl (.cons rfl (.nil _))) (K146 false _ ⟨(Option.some.inj hS).symm, _, hj148⟩)
       ·intro K138
        rcases Bool.eq_false_or_eq_true ((z110 && (y52.1 == 0)) && (y66.1 == 12)) with hg137 | hg137
        all_goals try have hj140 : Tr ρ114 w113 (fun _ => false) ρ114 w113 := Tr.refl hb.bd
        ·refine sr_evg (b := true) (e := 65) rfl rfl hg137 (v := .int .i64 y75.1) (ev_move rfl) (by decide) ?_
         refine sr_evg (b := true) (e := 65) rfl rfl hg137 (v := .bool (y75.1 == 13)) (ev_eq rfl rfl) (by decide) ?_
         refine sr_ev (v := .bool (y75.1 == 13)) (ev_pick_t rfl hg137 rfl) (by decide) ?_
         exact sr_weaken (l' := [(1, .pointer (some ⟨g6, 0, none⟩)), (68, .bool (y75.1 == 13))]) (.cons rfl (.cons rfl (.nil _))) (K138 (y75.1 == 13) _ ⟨by rw [hg137]; rfl, rfl⟩)
        ·refine sr_pass (e := 65) rfl rfl (by rw [hg137]; rfl) (by decide) ?_
         refine sr_pass (e := 65) rfl rfl (by rw [hg137]; rfl) (by decide) ?_
         refine sr_ev (v := .bool false) (ev_pick_f rfl hg137 rfl) (by decide) ?_
         exact sr_weaken (l' := [(1, .pointer (some ⟨g6, 0, none⟩)), (68, .bool false)]) (.cons rfl (.cons rfl (.nil _))) (K138 false _ ⟨by rw [hg137]; rfl, rfl⟩)
      ·intro K130
       rcases Bool.eq_false_or_eq_true (z110 && (y52.1 == 0)) with hg129 | hg129
       all_goals try have hj132 : Tr ρ114 w113 (fun _ => false) ρ114 w113 := Tr.refl hb.bd
       ·refine sr_evg (b := true) (e := 61) rfl rfl hg129 (v := .int .i64 y66.1) (ev_move rfl) (by decide) ?_
        refine sr_evg (b := true) (e := 61) rfl rfl hg129 (v := .bool (y66.1 == 12)) (ev_eq rfl rfl) (by decide) ?_
        refine sr_ev (v := .bool (y66.1 == 12)) (ev_pick_t rfl hg129 rfl) (by decide) ?_
        exact sr_weaken (l' := [(1, .pointer (some ⟨g6, 0, none⟩)), (10, .int .i64 y75.1), (64, .bool (y66.1 == 12))]) (.cons rfl (.cons rfl (.cons rfl (.nil _)))) (K130 (y66.1 == 12) _ ⟨by rw [hg129]; rfl, rfl⟩)
       ·refine sr_pass (e := 61) rfl rfl (by rw [hg129]; rfl) (by decide) ?_
        refine sr_pass (e := 61) rfl rfl (by rw [hg129]; rfl) (by decide) ?_
        refine sr_ev (v := .bool false) (ev_pick_f rfl hg129 rfl) (by decide) ?_
        exact sr_weaken (l' := [(1, .pointer (some ⟨g6, 0, none⟩)), (10, .int .i64 y75.1), (64, .bool false)]) (.cons rfl (.cons rfl (.cons rfl (.nil _)))) (K130 false _ ⟨by rw [hg129]; rfl, rfl⟩)
     ·intro K122
      rcases Bool.eq_false_or_eq_true z110 with hg121 | hg121
      all_goals try have hj124 : Tr ρ114 w113 (fun _ => false) ρ114 w113 := Tr.refl hb.bd
      ·refine sr_evg (b := true) (e := 57) rfl rfl hg121 (v := .int .i64 y52.1) (ev_move rfl) (by decide) ?_
       refine sr_evg (b := true) (e := 57) rfl rfl hg121 (v := .bool (y52.1 == 0)) (ev_eq rfl rfl) (by decide) ?_
       refine sr_ev (v := .bool (y52.1 == 0)) (ev_pick_t rfl hg121 rfl) (by decide) ?_
       exact sr_weaken (l' := [(1, .pointer (some ⟨g6, 0, none⟩)), (9, .int .i64 y66.1), (10, .int .i64 y75.1), (60, .bool (y52.1 == 0))]) (.cons rfl (.cons rfl (.cons rfl (.cons rfl (.nil _))))) (K122 (y52.1 == 0) _ ⟨by rw [hg121]; rfl, rfl⟩)
      ·refine sr_pass (e := 57) rfl rfl (by rw [hg121]; rfl) (by decide) ?_
       refine sr_pass (e := 57) rfl rfl (by rw [hg121]; rfl) (by decide) ?_
       refine sr_ev (v := .bool false) (ev_pick_f rfl hg121 rfl) (by decide) ?_
       exact sr_weaken (l' := [(1, .pointer (some ⟨g6, 0, none⟩)), (9, .int .i64 y66.1), (10, .int .i64 y75.1), (60, .bool false)]) (.cons rfl (.cons rfl (.cons rfl (.cons rfl (.nil _))))) (K122 false _ ⟨by rw [hg121]; rfl, rfl⟩)
    ·intro K109
     clear hS
     have hj111 : Tr ρ83 w77 (fun _ => false) ρ83 w77 := (Tr.refl hb.bd).weak (fun _ _ => rfl) rfl rfl
     rcases Bool.eq_false_or_eq_true ((((y11.2.1 == 6) && (y20.1 == 0)) && (y29.1 == 0)) && (y38.2.1 == 0)) with hg108 | hg108
     ·have hS := ite_true' hz112 hg108
      refine sr_evg (b := true) (e := 52) rfl rfl hg108 (v := str y38.1) (ev_move rfl) (by decide) ?_
      obtain ⟨y116, hy117, hS⟩ := bind_some' hS
      refine sr_callg (b := true) (e := 52) rfl rfl hg108 (vs := [str ([117, 124, 100]), .int .i64 1]) rfl Tryz.call16 rfl (proof_Unique_ok _ (hg.fr hz hb) hy117) (by decide) ?_
      rintro _ w118 ⟨rfl, hbw119⟩
      have htr120 := Tr.of_below hbw119 hb.bd
      replace hB82 := hB82.mv (htr120.mv (i := 100) rfl)
      replace h81 := h81.mv (htr120.mv (i := 101) rfl)
      replace hb := hb.trans htr120
      replace hj111 := (hj111.trans htr120).weak (J' := (fun _ => false)) (by intro t h; simp [rng] at h ⊢ <;> omega) rfl rfl
      refine sr_evg (b := true) (e := 52) rfl rfl hg108 (v := .bool (y38.1 == y116)) (ev_seq rfl rfl) (by decide) ?_
      refine sr_ev (v := .bool (y38.1 == y116)) (ev_pick_t rfl hg108 rfl) (by decide) ?_
      exact sr_weaken (l' := [(1, .pointer (some ⟨g6, 0, none⟩)), (8, .int .i64 y52.1), (9, .int .i64 y66.1), (10, .int .i64 y75.1), (56, .bool (y38.1 == y116))]) (.cons rfl (.cons rfl (.cons rfl (.cons rfl (.cons rfl (.nil _)))))) (K109 (y38.1 == y116) _ ⟨(Option.some.inj hS).symm, _, hj111⟩)
     ·have hS := ite_false' hz112 hg108
      refine sr_pass (e := 52) rfl rfl (by rw [hg108]; rfl) (by decide) ?_
      refine sr_pass (e := 52) rfl rfl (by rw [hg108]; rfl) (by decide) ?_
      refine sr_pass (e := 52) rfl rfl (by rw [hg108]; rfl) (by decide) ?_
      refine sr_ev (v := .bool false) (ev_pick_f rfl hg108 rfl) (by decide) ?_
      exact sr_weaken (l' := [(1, .pointer (some ⟨g6, 0, none⟩)), (8, .int .i64 y52.1), (9, .int .i64 y66.1), (10, .int .i64 y75.1), (56, .bool false)]) (.cons rfl (.cons rfl (.cons rfl (.cons rfl (.cons rfl (.nil _)))))) (K109 false _ ⟨(Option.some.inj hS).symm, _, hj111⟩)
   ·intro K101
    rcases Bool.eq_false_or_eq_true (((y11.2.1 == 6) && (y20.1 == 0)) && (y29.1 == 0)) with hg100 | hg100
    all_goals try have hj103 : Tr ρ83 w77 (fun _ => false) ρ83 w77 := Tr.refl hb.bd
    ·refine sr_evg (b := true) (e := 48) rfl rfl hg100 (v := .int .i64 y38.2.1) (ev_move rfl) (by decide) ?_
     refine sr_evg (b := true) (e := 48) rfl rfl hg100 (v := .bool (y38.2.1 == 0)) (ev_eq rfl rfl) (by decide) ?_
     refine sr_ev (v := .bool (y38.2.1 == 0)) (ev_pick_t rfl hg100 rfl) (by decide) ?_
     exact sr_weaken (l' := [(1, .pointer (some ⟨g6, 0, none⟩)), (6, str y38.1), (8, .int .i64 y52.1), (9, .int .i64 y66.1), (10, .int .i64 y75.1), (51, .bool (y38.2.1 == 0))]) (.cons rfl (.cons rfl (.cons rfl (.cons rfl (.cons rfl (.cons rfl (.nil _))))))) (K101 (y38.2.1 == 0) _ ⟨by rw [hg100]; rfl, rfl⟩)
    ·refine sr_pass (e := 48) rfl rfl (by rw [hg100]; rfl) (by decide) ?_
     refine sr_pass (e := 48) rfl rfl (by rw [hg100]; rfl) (by decide) ?_
     refine sr_ev (v := .bool false) (ev_pick_f rfl hg100 rfl) (by decide) ?_
     exact sr_weaken (l' := [(1, .pointer (some ⟨g6, 0, none⟩)), (6, str y38.1), (8, .int .i64 y52.1), (9, .int .i64 y66.1), (10, .int .i64 y75.1), (51, .bool false)]) (.cons rfl (.cons rfl (.cons rfl (.cons rfl (.cons rfl (.cons rfl (.nil _))))))) (K101 false _ ⟨by rw [hg100]; rfl, rfl⟩)
  ·intro K93
   rcases Bool.eq_false_or_eq_true ((y11.2.1 == 6) && (y20.1 == 0)) with hg92 | hg92
   all_goals try have hj95 : Tr ρ83 w77 (fun _ => false) ρ83 w77 := Tr.refl hb.bd
   ·refine sr_evg (b := true) (e := 44) rfl rfl hg92 (v := .int .i64 y29.1) (ev_move rfl) (by decide) ?_
    refine sr_evg (b := true) (e := 44) rfl rfl hg92 (v := .bool (y29.1 == 0)) (ev_eq rfl rfl) (by decide) ?_
    refine sr_ev (v := .bool (y29.1 == 0)) (ev_pick_t rfl hg92 rfl) (by decide) ?_
    exact sr_weaken (l' := [(1, .pointer (some ⟨g6, 0, none⟩)), (6, str y38.1), (7, .int .i64 y38.2.1), (8, .int .i64 y52.1), (9, .int .i64 y66.1), (10, .int .i64 y75.1), (47, .bool (y29.1 == 0))]) (.cons rfl (.cons rfl (.cons rfl (.cons rfl (.cons rfl (.cons rfl (.cons rfl (.nil _)))))))) (K93 (y29.1 == 0) _ ⟨by rw [hg92]; rfl, rfl⟩)
   ·refine sr_pass (e := 44) rfl rfl (by rw [hg92]; rfl) (by decide) ?_
    refine sr_pass (e := 44) rfl rfl (by rw [hg92]; rfl) (by decide) ?_
    refine sr_ev (v := .bool false) (ev_pick_f rfl hg92 rfl) (by decide) ?_
    exact sr_weaken (l' := [(1, .pointer (some ⟨g6, 0, none⟩)), (6, str y38.1), (7, .int .i64 y38.2.1), (8, .int .i64 y52.1), (9, .int .i64 y66.1), (10, .int .i64 y75.1), (47, .bool false)]) (.cons rfl (.cons rfl (.cons rfl (.cons rfl (.cons rfl (.cons rfl (.cons rfl (.nil _)))))))) (K93 false _ ⟨by rw [hg92]; rfl, rfl⟩)
 ·intro K85
  rcases Bool.eq_false_or_eq_true (y11.2.1 == 6) with hg84 | hg84
  all_goals try have hj87 : Tr ρ83 w77 (fun _ => false) ρ83 w77 := Tr.refl hb.bd
  ·refine sr_evg (b := true) (e := 40) rfl rfl hg84 (v := .int .i64 y20.1) (ev_move rfl) (by decide) ?_
   refine sr_evg (b := true) (e := 40) rfl rfl hg84 (v := .bool (y20.1 == 0)) (ev_eq rfl rfl) (by decide) ?_
   refine sr_ev (v := .bool (y20.1 == 0)) (ev_pick_t rfl hg84 rfl) (by decide) ?_
   exact sr_weaken (l' := [(1, .pointer (some ⟨g6, 0, none⟩)), (5, .int .i64 y29.1), (6, str y38.1), (7, .int .i64 y38.2.1), (8, .int .i64 y52.1), (9, .int .i64 y66.1), (10, .int .i64 y75.1), (43, .bool (y20.1 == 0))]) (.cons rfl (.cons rfl (.cons rfl (.cons rfl (.cons rfl (.cons rfl (.cons rfl (.cons rfl (.nil _))))))))) (K85 (y20.1 == 0) _ ⟨by rw [hg84]; rfl, rfl⟩)
  ·refine sr_pass (e := 40) rfl rfl (by rw [hg84]; rfl) (by decide) ?_
   refine sr_pass (e := 40) rfl rfl (by rw [hg84]; rfl) (by decide) ?_
   refine sr_ev (v := .bool false) (ev_pick_f rfl hg84 rfl) (by decide) ?_
   exact sr_weaken (l' := [(1, .pointer (some ⟨g6, 0, none⟩)), (5, .int .i64 y29.1), (6, str y38.1), (7, .int .i64 y38.2.1), (8, .int .i64 y52.1), (9, .int .i64 y66.1), (10, .int .i64 y75.1), (43, .bool false)]) (.cons rfl (.cons rfl (.cons rfl (.cons rfl (.cons rfl (.cons rfl (.cons rfl (.cons rfl (.nil _))))))))) (K85 false _ ⟨by rw [hg84]; rfl, rfl⟩)
theorem ref37_New_ok (w0 : World) (hg : Gs w0) {ρA : Tags} (hbd : ∀ b, ρA b ≠ 0 → b < w0.heap.size) (hz : Gz ρA) {o : Nat} (ho2 : 2 ≤ o) {r : ref37_Devices} (hS : ref37_New = some r) :
  Calls Tryz.prog 7 #[] w0 (Ret (fun v w' => ∃ ρ' zr0, v = .pointer (some ⟨zr0, 0, none⟩) ∧ ref37_Devices.O (fun p => o + p) ρ' w' zr0 r ∧ Tr ρA w0 (rng o 2) ρ' w')) := by
 unfold ref37_New at hS
 have hb := enter_fr (ρ := ρA) (w := w0) (n := 2) ho2 hbd
 have hz := hz.enter (n := 2) ho2
 refine calls_of_ke Tryz.func7 rfl (n := 3) rfl rfl (l := []) rfl ?_
 refine ke_seq ?_
 refine ke_region ?_
 refine sr_ev (v := .pointer none) (ev_assign rfl) (by decide) ?_
 refine sr_end (l' := []) (.nil _) ?_
 refine ke_seq ?_
 refine ke_region ?_
 refine sr_ev (v := .agg #[(.slice none 0 0), .int .i64 0]) (ev_build (vs := #[]) rfl (fun _ => by kernel_rfl)) (by decide) ?_
 refine sr_boxT 100 (by decide) hb.bd rfl (by decide) ?_
 intro g1 ρ2 w3 hB5 htr4
 replace hb := hb.trans htr4
 replace hB5 : Blk ρ2 100 w3 g1 (.cells #[(.slice none 0 0), .int .i64 0] 55 (0, 0)) := hB5
 refine sr_ev (v := .pointer (some ⟨g1, 0, none⟩)) (ev_assign rfl) (by decide) ?_
 refine sr_end (l' := [(0, .pointer (some ⟨g1, 0, none⟩))]) (.cons rfl (.nil _)) ?_
 cases hS
 exact ke_ret1 Tryz.func7 rfl rfl ⟨_, rfl, leave ρA w0 o 2 ρ2, _, rfl, ⟨_, (hB5.mv (leave_mv (p := 0) (by decide) hb)), OwnT.nil⟩, (leave_tr ho2 hb)⟩
theorem law37_do_B1_ok {w0 : World} (hg : Gs w0) {ρA : Tags} (hbd : ∀ b, ρA b ≠ 0 → b < w0.heap.size) {o : Nat} (ho2 : 2 ≤ o) {gd_0 : Nat} (hz : Gz (enter ρA o 2)) {r : law37_result × device_Devices} {t_6_0 : Str} {t_6_1 : List Str} {t_6_2 : Int} {t_6_3 : Bool} {t_6_4 : Int} {r_7_0 : Str} {r_7_1 : List Str} {r_7_2 : Int} {r_7_3 : Bool} {r_7_4 : Int} {ogd_0 : device_Devices} {gt_6 : Nat} {vt_6_1 : Value} {gr_7 : Nat} {vr_7_1 : Value} (hS : law37_do_B1 t_6_0 t_6_1 t_6_2 t_6_3 t_6_4 r_7_0 r_7_1 r_7_2 r_7_3 r_7_4 ogd_0 = some r) {ρ : Tags} {w : World} (hb : Fr (enter ρA o 2) w0 ρ w) (ht_6_1 : SlR strC (Wb ρ) w vt_6_1 t_6_1) (hBt_6 : Blk ρ 8 w gt_6 (.cells #[str t_6_0, vt_6_1, .int .i64 t_6_2, .bool t_6_3, .int .i64 t_6_4] 32 (0, 0))) (hr_7_1 : SlR strC (Wb ρ) w vr_7_1 r_7_1) (hBr_7 : Blk ρ 9 w gr_7 (.cells #[str r_7_0, vr_7_1, .int .i64 r_7_2, .bool r_7_3, .int .i64 r_7_4] 32 (0, 0))) (hogd_0 : device_Devices.O (fun p => 100 + p) ρ w gd_0 ogd_0) :
  KE Tryz.prog 8 (Ret (fun v w' => ∃ ρ' x1, v = .agg #[str r.1.text, x1, .int .i64 r.1.n, .bool r.1.is_, .int .i64 r.1.e] ∧ SlR strC (Wb ρ') w' x1 r.1.list ∧ device_Devices.O (fun p => o + p) ρ' w' gd_0 r.2 ∧ Tr ρA w0 (rng o 2) ρ' w')) 105 [.inBlock 0, .code (sub (bodyOf Tryz.f8) [2, 2, 2])] [(6, .pointer (some ⟨gt_6, 0, none⟩)), (7, .pointer (some ⟨gr_7, 0, none⟩))] w := by
 unfold law37_do_B1 at hS
 obtain ⟨v33, hB35, h34⟩ := hogd_0
 replace hB35 : Blk ρ 100 w gd_0 (.cells #[v33, .int .i64 ogd_0.given] 41 (0, 0)) := hB35
 replace h34 : MapT device_key.ek device_record.c true ρ 101 w v33 ogd_0.records := h34
 refine ke_inBlock ?_
 refine ke_seq ?_
 refine ke_region ?_
 refine sr_ev (v := .agg #[str r_7_0, vr_7_1, .int .i64 r_7_2, .bool r_7_3, .int .i64 r_7_4]) (ev_loads (cs := [str r_7_0, vr_7_1, .int .i64 r_7_2, .bool r_7_3, .int .i64 r_7_4]) Tryz.isAgg32 Tryz.sizeOf32 rfl (hBr_7.cells (vs := [str r_7_0, vr_7_1, .int .i64 r_7_2, .bool r_7_3, .int .i64 r_7_4]) rfl)) (by decide) ?_
 refine sr_storeT (v := .agg #[str r_7_0, vr_7_1, .int .i64 r_7_2, .bool r_7_3, .int .i64 r_7_4]) (vs := [str r_7_0, vr_7_1, .int .i64 r_7_2, .bool r_7_3, .int .i64 r_7_4]) (cs' := #[str r_7_0, vr_7_1, .int .i64 r_7_2, .bool r_7_3, .int .i64 r_7_4]) hBt_6 (by decide) hb.bd rfl rfl rfl Tryz.sizeOf32 rfl (by first | rfl | (simp only [List.all_cons, List.all_nil, SlR.oneCell hr_7_1]; done) | (simp only [List.all_cons, List.all_nil, SlR.oneCell hr_7_1]; rfl)) rfl ?_
 intro w38 hBt_61 htr39
 replace hr_7_1 := hr_7_1.mv htr39.rd
 replace hB35 := hB35.mv (htr39.mv (i := 100) rfl)
 replace h34 := h34.mv (htr39.mv (i := 101) rfl)
 replace hb := hb.trans htr39
 replace hBt_6 : Blk ρ 8 w38 gt_6 (.cells #[str r_7_0, vr_7_1, .int .i64 r_7_2, .bool r_7_3, .int .i64 r_7_4] 32 (0, 0)) := hBt_61
 clear hBt_61
 refine sr_end (l' := [(6, .pointer (some ⟨gt_6, 0, none⟩))]) (.cons rfl (.nil _)) ?_
 cases hS
 exact ke_ret (rs := [.cell 6 32]) (vs := [.agg #[str r_7_0, vr_7_1, .int .i64 r_7_2, .bool r_7_3, .int .i64 r_7_4]]) Tryz.func8 rfl ⟨⟨_, rfl, run_loadVar_s (cs := [str r_7_0, vr_7_1, .int .i64 r_7_2, .bool r_7_3, .int .i64 r_7_4]) Tryz.isAgg32 Tryz.sizeOf32 (hBt_6.cells (vs := [str r_7_0, vr_7_1, .int .i64 r_7_2, .bool r_7_3, .int .i64 r_7_4]) rfl)⟩, trivial⟩ rfl ⟨_, rfl, leave ρA w0 o 2 ρ, _, rfl, (SlR.mv hr_7_1 (leave_rd hb)), ⟨_, (hB35.mv (leave_mv (p := 0) (by decide) hb)), (h34.mv (leave_mv (p := 1) (by decide) hb))⟩, (leave_tr ho2 hb)⟩
theorem law37_do_ok (w0 : World) (hg : Gs w0) {ρA : Tags} (hbd : ∀ b, ρA b ≠ 0 → b < w0.heap.size) (hz : Gz ρA) {o : Nat} (ho2 : 2 ≤ o) {d_0 : device_Devices} {o_1 : law37_Op} {last_2 : Str} {gd_0 : Nat} {r : law37_result × device_Devices} (ho0 : device_Devices.O (fun p => o + p) ρA w0 gd_0 d_0) (hS : law37_do d_0 o_1 last_2 = some r) :
  Calls Tryz.prog 8 #[.pointer (some ⟨gd_0, 0, none⟩), .agg #[.int .i64 o_1.Kind, str o_1.User, str o_1.ID, str o_1.Secret, .int .i64 o_1.Until, .int .i64 o_1.Now], str last_2] w0 (Ret (fun v w' => ∃ ρ' x1, v = .agg #[str r.1.text, x1, .int .i64 r.1.n, .bool r.1.is_, .int .i64 r.1.e] ∧ SlR strC (Wb ρ') w' x1 r.1.list ∧ device_Devices.O (fun p => o + p) ρ' w' gd_0 r.2 ∧ Tr ρA w0 (rng o 2) ρ' w')) := by
 unfold law37_do at hS
 have hb := enter_fr (ρ := ρA) (w := w0) (n := 2) ho2 hbd
 have hz := hz.enter (n := 2) ho2
 obtain ⟨v1, hB3, h2⟩ := ho0
 replace hB3 := hB3.mv (enter_mv (p := 0) (n := 2) (by decide) ho2)
 replace h2 := h2.mv (enter_mv (p := 1) (n := 2) (by decide) ho2)
 replace hB3 : Blk (enter ρA o 2) 100 w0 gd_0 (.cells #[v1, .int .i64 d_0.given] 41 (0, 0)) := hB3
 replace h2 : MapT device_key.ek device_record.c true (enter ρA o 2) 101 w0 v1 d_0.records := h2
 refine calls_of_ke Tryz.func8 rfl (n := 105) rfl rfl (l := [(0, .pointer (some ⟨gd_0, 0, none⟩)), (1, .agg #[.int .i64 o_1.Kind, str o_1.User, str o_1.ID, str o_1.Secret, .int .i64 o_1.Until, .int .i64 o_1.Now]), (2, str last_2)]) rfl ?_
 refine ke_seq ?_
 refine ke_region ?_
 refine sr_boxT 6 (by decide) hb.bd rfl (by decide) ?_
 intro g6 ρ7 w8 hB10 htr9
 replace hB3 := hB3.mv (htr9.mv (i := 100) rfl)
 replace h2 := h2.mv (htr9.mv (i := 101) rfl)
 replace hb := hb.trans htr9
 replace hB10 : Blk ρ7 6 w8 g6 (.cells #[.int .i64 o_1.Kind, str o_1.User, str o_1.ID, str o_1.Secret, .int .i64 o_1.Until, .int .i64 o_1.Now] 35 (0, 0)) := hB10
 refine sr_allocT 8 (by decide) hb.bd Tryz.zeroValue32 (by decide) ?_
 intro g11 ρ12 w13 hB15 htr14
 replace hB10 := hB10.mv (htr14.mv (i := 6) rfl)
 replace hB3 := hB3.mv (htr14.mv (i := 100) rfl)
 replace h2 := h2.mv (htr14.mv (i := 101) rfl)
 replace hb := hb.trans htr14
 replace hB15 : Blk ρ12 8 w13 g11 (.cells #[str ([]), (.slice none 0 0), .int .i64 0, .bool false, .int .i64 0] 32 (0, 0)) := hB15
 refine sr_end (l' := [(0, .pointer (some ⟨gd_0, 0, none⟩)), (2, str last_2), (4, .pointer (some ⟨g6, 0, none⟩)), (6, .pointer (some ⟨g11, 0, none⟩))]) (.cons rfl (.cons rfl (.cons rfl (.cons rfl (.nil _))))) ?_
 refine ke_seq ?_
 refine ke_region ?_
 refine sr_allocT 9 (by decide) hb.bd Tryz.zeroValue32 (by decide) ?_
 intro g16 ρ17 w18 hB20 htr19
 replace hB15 := hB15.mv (htr19.mv (i := 8) rfl)
 replace hB10 := hB10.mv (htr19.mv (i := 6) rfl)
 replace hB3 := hB3.mv (htr19.mv (i := 100) rfl)
 replace h2 := h2.mv (htr19.mv (i := 101) rfl)
 replace hb := hb.trans htr19
 replace hB20 : Blk ρ17 9 w18 g16 (.cells #[str ([]), (.slice none 0 0), .int .i64 0, .bool false, .int .i64 0] 32 (0, 0)) := hB20
 refine sr_end (l' := [(0, .pointer (some ⟨gd_0, 0, none⟩)), (2, str last_2), (4, .pointer (some ⟨g6, 0, none⟩)), (6, .pointer (some ⟨g11, 0, none⟩)), (7, .pointer (some ⟨g16, 0, none⟩))]) (.cons rfl (.cons rfl (.cons rfl (.cons rfl (.cons rfl (.nil _)))))) ?_
 refine ke_seq ?_
 refine ke_seq ?_
 refine ke_region ?_
 refine sr_ev (v := .pointer (some ⟨g6, 0, none⟩)) (ev_fieldAddr (i := 0) Tryz.underlying35 rfl Tryz.info3 rfl rfl) (by decide) ?_
 refine sr_ev (v := .int .i64 o_1.Kind) (ev_load Tryz.isAgg3 rfl (hB10.cell rfl)) (by decide) ?_
 refine sr_end (l' := [(0, .pointer (some ⟨gd_0, 0, none⟩)), (2, str last_2), (4, .pointer (some ⟨g6, 0, none⟩)), (6, .pointer (some ⟨g11, 0, none⟩)), (7, .pointer (some ⟨g16, 0, none⟩)), (9, .int .i64 o_1.Kind)]) (.cons rfl (.cons rfl (.cons rfl (.cons rfl (.cons rfl (.cons rfl (.nil _))))))) ?_
 refine ke_block ?_
 refine ke_seq ?_
 refine ke_region ?_
 refine sr_ev (v := .bool (o_1.Kind == 1)) (ev_eq rfl rfl) (by decide) ?_
 refine sr_ev (v := .bool (o_1.Kind == 1)) (ev_assign rfl) (by decide) ?_
 refine sr_end (l' := [(0, .pointer (some ⟨gd_0, 0, none⟩)), (2, str last_2), (4, .pointer (some ⟨g6, 0, none⟩)), (6, .pointer (some ⟨g11, 0, none⟩)), (7, .pointer (some ⟨g16, 0, none⟩)), (9, .int .i64 o_1.Kind), (10, .bool (o_1.Kind == 1))]) (.cons rfl (.cons rfl (.cons rfl (.cons rfl (.cons rfl (.cons rfl (.cons rfl (.nil _)))))))) ?_
 refine ke_cond (t := o_1.Kind == 1) rfl (fun hc21 => ?_) (fun hc21 => ?_)
 ·replace hS := ite_true' hS hc21
  refine ke_region ?_
  refine sr_ev (v := .pointer (some ⟨gd_0, 0, none⟩)) (ev_move rfl) (by decide) ?_
  refine sr_ev (v := .pointer (some ⟨g6, 1, none⟩)) (ev_fieldAddr (i := 1) Tryz.underlying35 rfl Tryz.info9 rfl rfl) (by decide) ?_
  refine sr_ev (v := str o_1.User) (ev_load Tryz.isAgg9 rfl (hB10.cell rfl)) (by decide) ?_
  refine sr_ev (v := .pointer (some ⟨g6, 2, none⟩)) (ev_fieldAddr (i := 2) Tryz.underlying35 rfl Tryz.info9 rfl rfl) (by decide) ?_
  refine sr_ev (v := str o_1.ID) (ev_load Tryz.isAgg9 rfl (hB10.cell rfl)) (by decide) ?_
  refine sr_ev (v := .pointer (some ⟨g6, 3, none⟩)) (ev_fieldAddr (i := 3) Tryz.underlying35 rfl Tryz.info9 rfl rfl) (by decide) ?_
  refine sr_ev (v := str o_1.Secret) (ev_load Tryz.isAgg9 rfl (hB10.cell rfl)) (by decide) ?_
  refine sr_ev (v := .pointer (some ⟨g6, 4, none⟩)) (ev_fieldAddr (i := 4) Tryz.underlying35 rfl Tryz.info3 rfl rfl) (by decide) ?_
  refine sr_ev (v := .int .i64 o_1.Until) (ev_load Tryz.isAgg3 rfl (hB10.cell rfl)) (by decide) ?_
  refine sr_ev (v := .pointer (some ⟨g6, 5, none⟩)) (ev_fieldAddr (i := 5) Tryz.underlying35 rfl Tryz.info3 rfl rfl) (by decide) ?_
  refine sr_ev (v := .int .i64 o_1.Now) (ev_load Tryz.isAgg3 rfl (hB10.cell rfl)) (by decide) ?_
  obtain ⟨y22, hy23, hS⟩ := bind_some' hS
  refine sr_call (vs := [.pointer (some ⟨gd_0, 0, none⟩), str o_1.User, str o_1.ID, str o_1.Secret, .int .i64 o_1.Until, .int .i64 o_1.Now]) rfl Tryz.call13 rfl (device_Devices_Trust_ok _ (hg.fr hz hb) (ρA := ρ17) hb.bd (hz.fr hg hb) (o := 100) (by decide) (⟨_, hB3, h2⟩ : device_Devices.O (fun p => 100 + p) ρ17 w18 gd_0 d_0) hy23) (by decide) ?_
  rintro _ w24 ⟨ρ30, rfl, ⟨v27, hB29, h28⟩, htr26⟩
  replace hB20 := hB20.mv (htr26.mv (i := 9) rfl)
  replace hB15 := hB15.mv (htr26.mv (i := 8) rfl)
  replace hb := hb.trans htr26
  replace hB29 : Blk ρ30 100 w24 gd_0 (.cells #[v27, .int .i64 y22.2.given] 41 (0, 0)) := hB29
  replace h28 : MapT device_key.ek device_record.c true ρ30 101 w24 v27 y22.2.records := h28
  refine sr_ev (v := .pointer (some ⟨g16, 4, none⟩)) (ev_fieldAddr (i := 4) Tryz.underlying32 rfl Tryz.info30 rfl rfl) (by decide) ?_
  refine sr_storeT (v := .int .i64 y22.1) (vs := [.int .i64 y22.1]) (cs' := #[str ([]), (.slice none 0 0), .int .i64 0, .bool false, .int .i64 y22.1]) hB20 (by decide) hb.bd rfl rfl rfl Tryz.sizeOf30 rfl rfl rfl ?_
  intro w31 hB201 htr32
  replace hB15 := hB15.mv (htr32.mv (i := 8) rfl)
  replace hB29 := hB29.mv (htr32.mv (i := 100) rfl)
  replace h28 := h28.mv (htr32.mv (i := 101) rfl)
  replace hb := hb.trans htr32
  replace hB20 : Blk ρ30 9 w31 g16 (.cells #[str ([]), (.slice none 0 0), .int .i64 0, .bool false, .int .i64 y22.1] 32 (0, 0)) := hB201
  clear hB201
  refine sr_end (l' := [(6, .pointer (some ⟨g11, 0, none⟩)), (7, .pointer (some ⟨g16, 0, none⟩))]) (.cons rfl (.cons rfl (.nil _))) ?_
  have hK := law37_do_B1_ok hg hbd ho2 hz hS hb SlR.nil hB15 SlR.nil hB20 ⟨_, hB29, h28⟩
  exact ke_weaken (l' := [(6, .pointer (some ⟨g11, 0, none⟩)), (7, .pointer (some ⟨g16, 0, none⟩))]) (.cons rfl (.cons rfl (.nil _))) hK
 ·replace hS := ite_false' hS hc21
  refine ke_seq ?_
  refine ke_region ?_
  refine sr_ev (v := .bool (o_1.Kind == 2)) (ev_eq rfl rfl) (by decide) ?_
  refine sr_ev (v := .bool (o_1.Kind == 2)) (ev_assign rfl) (by decide) ?_
  refine sr_end (l' := [(0, .pointer (some ⟨gd_0, 0, none⟩)), (2, str last_2), (4, .pointer (some ⟨g6, 0, none⟩)), (6, .pointer (some ⟨g11, 0, none⟩)), (7, .pointer (some ⟨g16, 0, none⟩)), (9, .int .i64 o_1.Kind), (25, .bool (o_1.Kind == 2))]) (.cons rfl (.cons rfl (.cons rfl (.cons rfl (.cons rfl (.cons rfl (.cons rfl (.nil _)))))))) ?_
  refine ke_cond (t := o_1.Kind == 2) rfl (fun hc40 => ?_) (fun hc40 => ?_)
  ·replace hS := ite_true' hS hc40
   refine ke_region ?_
   refine sr_ev (v := .pointer (some ⟨gd_0, 0, none⟩)) (ev_move rfl) (by decide) ?_
   refine sr_ev (v := .pointer (some ⟨g6, 1, none⟩)) (ev_fieldAddr (i := 1) Tryz.underlying35 rfl Tryz.info9 rfl rfl) (by decide) ?_
   refine sr_ev (v := str o_1.User) (ev_load Tryz.isAgg9 rfl (hB10.cell rfl)) (by decide) ?_
   refine sr_ev (v := .pointer (some ⟨g6, 2, none⟩)) (ev_fieldAddr (i := 2) Tryz.underlying35 rfl Tryz.info9 rfl rfl) (by decide) ?_
   refine sr_ev (v := str o_1.ID) (ev_load Tryz.isAgg9 rfl (hB10.cell rfl)) (by decide) ?_
   refine sr_ev (v := .pointer (some ⟨g6, 5, none⟩)) (ev_fieldAddr (i := 5) Tryz.underlying35 rfl Tryz.info3 rfl rfl) (by decide) ?_
   refine sr_ev (v := .int .i64 o_1.Now) (ev_load Tryz.isAgg3 rfl (hB10.cell rfl)) (by decide) ?_
   obtain ⟨y41, hy42, hS⟩ := bind_some' hS
   refine sr_call (vs := [.pointer (some ⟨gd_0, 0, none⟩), str o_1.User, str o_1.ID, .int .i64 o_1.Now]) rfl Tryz.call12 rfl (device_Devices_Challenge_ok _ (hg.fr hz hb) (ρA := ρ17) hb.bd (hz.fr hg hb) (o := 100) (by decide) (⟨_, hB3, h2⟩ : device_Devices.O (fun p => 100 + p) ρ17 w18 gd_0 d_0) hy42) (by decide) ?_
   rintro _ w43 ⟨ρ49, rfl, ⟨v46, hB48, h47⟩, htr45⟩
   replace hB20 := hB20.mv (htr45.mv (i := 9) rfl)
   replace hB15 := hB15.mv (htr45.mv (i := 8) rfl)
   replace hb := hb.trans htr45
   replace hB48 : Blk ρ49 100 w43 gd_0 (.cells #[v46, .int .i64 y41.2.2.given] 41 (0, 0)) := hB48
   replace h47 : MapT device_key.ek device_record.c true ρ49 101 w43 v46 y41.2.2.records := h47
   refine sr_ev (v := .tuple #[str y41.1, .int .i64 y41.2.1]) (ev_move rfl) (by decide) ?_
   refine sr_ev (v := str y41.1) (ev_extract rfl rfl) (by decide) ?_
   refine sr_ev (v := .int .i64 y41.2.1) (ev_extract rfl rfl) (by decide) ?_
   refine sr_ev (v := .pointer (some ⟨g16, 0, none⟩)) (ev_fieldAddr (i := 0) Tryz.underlying32 rfl Tryz.info9 rfl rfl) (by decide) ?_
   refine sr_storeT (v := str y41.1) (vs := [str y41.1]) (cs' := #[str y41.1, (.slice none 0 0), .int .i64 0, .bool false, .int .i64 0]) hB20 (by decide) hb.bd rfl rfl rfl Tryz.sizeOf9 rfl rfl rfl ?_
   intro w50 hB201 htr51
   replace hB15 := hB15.mv (htr51.mv (i := 8) rfl)
   replace hB48 := hB48.mv (htr51.mv (i := 100) rfl)
   replace h47 := h47.mv (htr51.mv (i := 101) rfl)
   replace hb := hb.trans htr51
   replace hB20 : Blk ρ49 9 w50 g16 (.cells #[str y41.1, (.slice none 0 0), .int .i64 0, .bool false, .int .i64 0] 32 (0, 0)) := hB201
   clear hB201
   refine sr_ev (v := .pointer (some ⟨g16, 4, none⟩)) (ev_fieldAddr (i := 4) Tryz.underlying32 rfl Tryz.info30 rfl rfl) (by decide) ?_
   refine sr_storeT (v := .int .i64 y41.2.1) (vs := [.int .i64 y41.2.1]) (cs' := #[str y41.1, (.slice none 0 0), .int .i64 0, .bool false, .int .i64 y41.2.1]) hB20 (by decide) hb.bd rfl rfl rfl Tryz.sizeOf30 rfl rfl rfl ?_
   intro w52 hB201 htr53
   replace hB15 := hB15.mv (htr53.mv (i := 8) rfl)
   replace hB48 := hB48.mv (htr53.mv (i := 100) rfl)
   replace h47 := h47.mv (htr53.mv (i := 101) rfl)
   replace hb := hb.trans htr53
   replace hB20 : Blk ρ49 9 w52 g16 (.cells #[str y41.1, (.slice none 0 0), .int .i64 0, .bool false, .int .i64 y41.2.1] 32 (0, 0)) := hB201
   clear hB201
   refine sr_end (l' := [(6, .pointer (some ⟨g11, 0, none⟩)), (7, .pointer (some ⟨g16, 0, none⟩))]) (.cons rfl (.cons rfl (.nil _))) ?_
   have hK := law37_do_B1_ok hg hbd ho2 hz hS hb SlR.nil hB15 SlR.nil hB20 ⟨_, hB48, h47⟩
   exact ke_weaken (l' := [(6, .pointer (some ⟨g11, 0, none⟩)), (7, .pointer (some ⟨g16, 0, none⟩))]) (.cons rfl (.cons rfl (.nil _))) hK
  ·replace hS := ite_false' hS hc40
   refine ke_seq ?_
   refine ke_region ?_
   refine sr_ev (v := .bool (o_1.Kind == 3)) (ev_eq rfl rfl) (by decide) ?_
   refine sr_ev (v := .bool (o_1.Kind == 3)) (ev_assign rfl) (by decide) ?_
   refine sr_end (l' := [(0, .pointer (some ⟨gd_0, 0, none⟩)), (2, str last_2), (4, .pointer (some ⟨g6, 0, none⟩)), (6, .pointer (some ⟨g11, 0, none⟩)), (7, .pointer (some ⟨g16, 0, none⟩)), (9, .int .i64 o_1.Kind), (40, .bool (o_1.Kind == 3))]) (.cons rfl (.cons rfl (.cons rfl (.cons rfl (.cons rfl (.cons rfl (.cons rfl (.nil _)))))))) ?_
   refine ke_cond (t := o_1.Kind == 3) rfl (fun hc54 => ?_) (fun hc54 => ?_)
   ·replace hS := ite_true' hS hc54
    refine ke_region ?_
    refine sr_ev (v := .pointer (some ⟨gd_0, 0, none⟩)) (ev_move rfl) (by decide) ?_
    refine sr_ev (v := .pointer (some ⟨g6, 1, none⟩)) (ev_fieldAddr (i := 1) Tryz.underlying35 rfl Tryz.info9 rfl rfl) (by decide) ?_
    refine sr_ev (v := str o_1.User) (ev_load Tryz.isAgg9 rfl (hB10.cell rfl)) (by decide) ?_
    refine sr_ev (v := .pointer (some ⟨g6, 2, none⟩)) (ev_fieldAddr (i := 2) Tryz.underlying35 rfl Tryz.info9 rfl rfl) (by decide) ?_
    refine sr_ev (v := str o_1.ID) (ev_load Tryz.isAgg9 rfl (hB10.cell rfl)) (by decide) ?_
    refine sr_ev (v := .pointer (some ⟨g6, 3, none⟩)) (ev_fieldAddr (i := 3) Tryz.underlying35 rfl Tryz.info9 rfl rfl) (by decide) ?_
    refine sr_ev (v := str o_1.Secret) (ev_load Tryz.isAgg9 rfl (hB10.cell rfl)) (by decide) ?_
    refine sr_ev (v := .pointer (some ⟨g6, 5, none⟩)) (ev_fieldAddr (i := 5) Tryz.underlying35 rfl Tryz.info3 rfl rfl) (by decide) ?_
    refine sr_ev (v := .int .i64 o_1.Now) (ev_load Tryz.isAgg3 rfl (hB10.cell rfl)) (by decide) ?_
    obtain ⟨y55, hy56, hS⟩ := bind_some' hS
    refine sr_call (vs := [.pointer (some ⟨gd_0, 0, none⟩), str o_1.User, str o_1.ID, str o_1.Secret, .int .i64 o_1.Now]) rfl Tryz.call14 rfl (device_Devices_Prove_ok _ (hg.fr hz hb) (ρA := ρ17) hb.bd (hz.fr hg hb) (o := 100) (by decide) (⟨_, hB3, h2⟩ : device_Devices.O (fun p => 100 + p) ρ17 w18 gd_0 d_0) hy56) (by decide) ?_
    rintro _ w57 ⟨ρ63, rfl, ⟨v60, hB62, h61⟩, htr59⟩
    replace hB20 := hB20.mv (htr59.mv (i := 9) rfl)
    replace hB15 := hB15.mv (htr59.mv (i := 8) rfl)
    replace hb := hb.trans htr59
    replace hB62 : Blk ρ63 100 w57 gd_0 (.cells #[v60, .int .i64 y55.2.given] 41 (0, 0)) := hB62
    replace h61 : MapT device_key.ek device_record.c true ρ63 101 w57 v60 y55.2.records := h61
    refine sr_ev (v := .pointer (some ⟨g16, 4, none⟩)) (ev_fieldAddr (i := 4) Tryz.underlying32 rfl Tryz.info30 rfl rfl) (by decide) ?_
    refine sr_storeT (v := .int .i64 y55.1) (vs := [.int .i64 y55.1]) (cs' := #[str ([]), (.slice none 0 0), .int .i64 0, .bool false, .int .i64 y55.1]) hB20 (by decide) hb.bd rfl rfl rfl Tryz.sizeOf30 rfl rfl rfl ?_
    intro w64 hB201 htr65
    replace hB15 := hB15.mv (htr65.mv (i := 8) rfl)
    replace hB62 := hB62.mv (htr65.mv (i := 100) rfl)
    replace h61 := h61.mv (htr65.mv (i := 101) rfl)
    replace hb := hb.trans htr65
    replace hB20 : Blk ρ63 9 w64 g16 (.cells #[str ([]), (.slice none 0 0), .int .i64 0, .bool false, .int .i64 y55.1] 32 (0, 0)) := hB201
    clear hB201
    refine sr_end (l' := [(6, .pointer (some ⟨g11, 0, none⟩)), (7, .pointer (some ⟨g16, 0, none⟩))]) (.cons rfl (.cons rfl (.nil _))) ?_
    have hK := law37_do_B1_ok hg hbd ho2 hz hS hb SlR.nil hB15 SlR.nil hB20 ⟨_, hB62, h61⟩
    exact ke_weaken (l' := [(6, .pointer (some ⟨g11, 0, none⟩)), (7, .pointer (some ⟨g16, 0, none⟩))]) (.cons rfl (.cons rfl (.nil _))) hK
   ·replace hS := ite_false' hS hc54
    refine ke_seq ?_
    refine ke_region ?_
    refine sr_ev (v := .bool (o_1.Kind == 4)) (ev_eq rfl rfl) (by decide) ?_
    refine sr_ev (v := .bool (o_1.Kind == 4)) (ev_assign rfl) (by decide) ?_
    refine sr_end (l' := [(0, .pointer (some ⟨gd_0, 0, none⟩)), (2, str last_2), (4, .pointer (some ⟨g6, 0, none⟩)), (6, .pointer (some ⟨g11, 0, none⟩)), (7, .pointer (some ⟨g16, 0, none⟩)), (9, .int .i64 o_1.Kind), (53, .bool (o_1.Kind == 4))]) (.cons rfl (.cons rfl (.cons rfl (.cons rfl (.cons rfl (.cons rfl (.cons rfl (.nil _)))))))) ?_
    refine ke_cond (t := o_1.Kind == 4) rfl (fun hc66 => ?_) (fun hc66 => ?_)
    ·replace hS := ite_true' hS hc66
     refine ke_region_j (ρ := ρ17) (fun t => ([9, 100, 101] : List Nat).contains t) 14 Tryz.mixed (fun w68 hw67 => ?_)
     have htr69 := Tr.of_below hw67 hb.bd
     replace hB20 := hB20.mv (htr69.mv (i := 9) rfl)
     replace hB15 := hB15.mv (htr69.mv (i := 8) rfl)
     replace hB10 := hB10.mv (htr69.mv (i := 6) rfl)
     replace hB3 := hB3.mv (htr69.mv (i := 100) rfl)
     replace h2 := h2.mv (htr69.mv (i := 101) rfl)
     replace hb := hb.trans htr69
     refine dj_H 0 (v := .pointer (some ⟨gd_0, 0, none⟩)) (by kernel_rfl) (by kernel_rfl) rfl (fun _ _ _ h => h) (sj_refl hb.bd rfl rfl) (fun w1 ρ1 hw1 => ev_move rfl) (by decide) ?_
     refine dj_H 1 (v := .pointer (some ⟨g6, 1, none⟩)) (by kernel_rfl) (by kernel_rfl) rfl (fun _ _ _ h => h) (sj_refl hb.bd rfl rfl) (fun w1 ρ1 hw1 => ev_fieldAddr (i := 1) Tryz.underlying35 rfl Tryz.info9 rfl rfl) (by decide) ?_
     refine dj_H 2 (v := str o_1.User) (by kernel_rfl) (by kernel_rfl) rfl (fun _ _ _ h => h) (sj_refl hb.bd rfl rfl) (fun w1 ρ1 hw1 => ev_load Tryz.isAgg9 rfl ((hB10.mv (hw1.mv (i := 6) rfl)).cell rfl)) (by decide) ?_
     refine dj_H 3 (v := .pointer (some ⟨g6, 2, none⟩)) (by kernel_rfl) (by kernel_rfl) rfl (fun _ _ _ h => h) (sj_refl hb.bd rfl rfl) (fun w1 ρ1 hw1 => ev_fieldAddr (i := 2) Tryz.underlying35 rfl Tryz.info9 rfl rfl) (by decide) ?_
     refine dj_H 4 (v := str o_1.ID) (by kernel_rfl) (by kernel_rfl) rfl (fun _ _ _ h => h) (sj_refl hb.bd rfl rfl) (fun w1 ρ1 hw1 => ev_load Tryz.isAgg9 rfl ((hB10.mv (hw1.mv (i := 6) rfl)).cell rfl)) (by decide) ?_
     refine dj_H 5 (v := .pointer (some ⟨g6, 3, none⟩)) (by kernel_rfl) (by kernel_rfl) rfl (fun _ _ _ h => h) (sj_refl hb.bd rfl rfl) (fun w1 ρ1 hw1 => ev_fieldAddr (i := 3) Tryz.underlying35 rfl Tryz.info9 rfl rfl) (by decide) ?_
     refine dj_H 6 (v := str o_1.Secret) (by kernel_rfl) (by kernel_rfl) rfl (fun _ _ _ h => h) (sj_refl hb.bd rfl rfl) (fun w1 ρ1 hw1 => ev_load Tryz.isAgg9 rfl ((hB10.mv (hw1.mv (i := 6) rfl)).cell rfl)) (by decide) ?_
     refine dj_H 7 (v := str last_2) (by kernel_rfl) (by kernel_rfl) rfl (fun _ _ _ h => h) (sj_refl hb.bd rfl rfl) (fun w1 ρ1 hw1 => ev_move rfl) (by decide) ?_
     refine dj_H 9 (v := .pointer (some ⟨g6, 5, none⟩)) (by kernel_rfl) (by kernel_rfl) rfl (fun _ _ _ h => h) (sj_refl hb.bd rfl rfl) (fun w1 ρ1 hw1 => ev_fieldAddr (i := 5) Tryz.underlying35 rfl Tryz.info3 rfl rfl) (by decide) ?_
     refine dj_H 10 (v := .int .i64 o_1.Now) (by kernel_rfl) (by kernel_rfl) rfl (fun _ _ _ h => h) (sj_refl hb.bd rfl rfl) (fun w1 ρ1 hw1 => ev_load Tryz.isAgg3 rfl ((hB10.mv (hw1.mv (i := 6) rfl)).cell rfl)) (by decide) ?_
     refine dj_E 8 (by kernel_rfl) rfl ?_
     have jt109 : Tr ρ17 w68 (fun t => ([9, 100, 101] : List Nat).contains t) ρ17 w68 := (Tr.refl hb.bd).weak (fun _ _ => rfl) rfl rfl
     obtain ⟨y110, hy111, hS⟩ := bind_some' hS
     refine sr_call (vs := [str o_1.Secret, str last_2]) rfl Tryz.call15 rfl (device_Answer_ok _ (hg.fr hz hb) hy111) (by decide) ?_
     rintro _ w112 ⟨rfl, hbw113⟩
     have htr114 := Tr.of_below hbw113 hb.bd
     replace hB20 := hB20.mv (htr114.mv (i := 9) rfl)
     replace hB15 := hB15.mv (htr114.mv (i := 8) rfl)
     replace hB10 := hB10.mv (htr114.mv (i := 6) rfl)
     replace hB3 := hB3.mv (htr114.mv (i := 100) rfl)
     replace h2 := h2.mv (htr114.mv (i := 101) rfl)
     replace hb := hb.trans htr114
     replace jt109 := (jt109.trans htr114).weak (J' := (fun t => ([9, 100, 101] : List Nat).contains t)) (by intro t h; simp [rng] at h ⊢ <;> omega) rfl rfl
     refine dj_next (l' := [(6, .pointer (some ⟨g11, 0, none⟩)), (7, .pointer (some ⟨g16, 0, none⟩)), (55, .pointer (some ⟨gd_0, 0, none⟩)), (57, str o_1.User), (59, str o_1.ID), (63, str y110), (65, .int .i64 o_1.Now)]) rfl (.cons rfl (.cons rfl (.cons rfl (.cons rfl (.cons rfl (.cons rfl (.cons rfl (.nil _)))))))) jt109 (by intro t h; simp [rng] at h ⊢ <;> omega) rfl rfl ?_
     refine dj_E 11 (by kernel_rfl) rfl ?_
     have jt115 : Tr ρ17 w112 (fun t => ([9, 100, 101] : List Nat).contains t) ρ17 w112 := (Tr.refl hb.bd).weak (fun _ _ => rfl) rfl rfl
     obtain ⟨y116, hy117, hS⟩ := bind_some' hS
     refine sr_call (vs := [.pointer (some ⟨gd_0, 0, none⟩), str o_1.User, str o_1.ID, str y110, .int .i64 o_1.Now]) rfl Tryz.call14 rfl (device_Devices_Prove_ok _ (hg.fr hz hb) (ρA := ρ17) hb.bd (hz.fr hg hb) (o := 100) (by decide) (⟨_, hB3, h2⟩ : device_Devices.O (fun p => 100 + p) ρ17 w112 gd_0 d_0) hy117) (by decide) ?_
     rintro _ w118 ⟨ρ124, rfl, ⟨v121, hB123, h122⟩, htr120⟩
     replace hB20 := hB20.mv (htr120.mv (i := 9) rfl)
     replace hB15 := hB15.mv (htr120.mv (i := 8) rfl)
     replace hb := hb.trans htr120
     replace jt115 := (jt115.trans htr120).weak (J' := (fun t => ([9, 100, 101] : List Nat).contains t)) (by intro t h; simp [rng] at h ⊢ <;> omega) rfl rfl
     replace hB123 : Blk ρ124 100 w118 gd_0 (.cells #[v121, .int .i64 y116.2.given] 41 (0, 0)) := hB123
     replace h122 : MapT device_key.ek device_record.c true ρ124 101 w118 v121 y116.2.records := h122
     refine dj_next (l' := [(6, .pointer (some ⟨g11, 0, none⟩)), (7, .pointer (some ⟨g16, 0, none⟩)), (66, .int .i64 y116.1)]) rfl (.cons rfl (.cons rfl (.cons rfl (.nil _)))) jt115 (by intro t h; simp [rng] at h ⊢ <;> omega) rfl rfl ?_
     refine dj_H 12 (v := .pointer (some ⟨g16, 4, none⟩)) (by kernel_rfl) (by kernel_rfl) rfl (fun _ _ _ h => h) (sj_refl hb.bd rfl rfl) (fun w1 ρ1 hw1 => ev_fieldAddr (i := 4) Tryz.underlying32 rfl Tryz.info30 rfl rfl) (by decide) ?_
     refine dj_E 13 (by kernel_rfl) rfl ?_
     have jt125 : Tr ρ124 w118 (fun t => ([9, 100, 101] : List Nat).contains t) ρ124 w118 := (Tr.refl hb.bd).weak (fun _ _ => rfl) rfl rfl
     refine sr_storeT (v := .int .i64 y116.1) (vs := [.int .i64 y116.1]) (cs' := #[str ([]), (.slice none 0 0), .int .i64 0, .bool false, .int .i64 y116.1]) hB20 (by decide) hb.bd rfl rfl rfl Tryz.sizeOf30 rfl rfl rfl ?_
     intro w126 hB201 htr127
     replace hB15 := hB15.mv (htr127.mv (i := 8) rfl)
     replace hB123 := hB123.mv (htr127.mv (i := 100) rfl)
     replace h122 := h122.mv (htr127.mv (i := 101) rfl)
     replace hb := hb.trans htr127
     replace jt125 := (jt125.trans htr127).weak (J' := (fun t => ([9, 100, 101] : List Nat).contains t)) (by intro t h; simp [rng] at h ⊢ <;> omega) rfl rfl
     replace hB20 : Blk ρ124 9 w126 g16 (.cells #[str ([]), (.slice none 0 0), .int .i64 0, .bool false, .int .i64 y116.1] 32 (0, 0)) := hB201
     clear hB201
     refine dj_next (l' := [(6, .pointer (some ⟨g11, 0, none⟩)), (7, .pointer (some ⟨g16, 0, none⟩))]) rfl (.cons rfl (.cons rfl (.nil _))) jt125 (by intro t h; simp [rng] at h ⊢ <;> omega) rfl rfl ?_
     refine dj_done rfl (by kernel_rfl) ?_
     refine ke_weaken (l' := [(6, .pointer (some ⟨g11, 0, none⟩)), (7, .pointer (some ⟨g16, 0, none⟩))]) (.cons rfl (.cons rfl (.nil _))) ?_
     have hK := law37_do_B1_ok hg hbd ho2 hz hS hb SlR.nil hB15 SlR.nil hB20 ⟨_, hB123, h122⟩
     exact ke_weaken (l' := [(6, .pointer (some ⟨g11, 0, none⟩)), (7, .pointer (some ⟨g16, 0, none⟩))]) (.cons rfl (.cons rfl (.nil _))) hK
    ·replace hS := ite_false' hS hc66
     refine ke_seq ?_
     refine ke_region ?_
     refine sr_ev (v := .bool (o_1.Kind == 5)) (ev_eq rfl rfl) (by decide) ?_
     refine sr_ev (v := .bool (o_1.Kind == 5)) (ev_assign rfl) (by decide) ?_
     refine sr_end (l' := [(0, .pointer (some ⟨gd_0, 0, none⟩)), (4, .pointer (some ⟨g6, 0, none⟩)), (6, .pointer (some ⟨g11, 0, none⟩)), (7, .pointer (some ⟨g16, 0, none⟩)), (9, .int .i64 o_1.Kind), (68, .bool (o_1.Kind == 5))]) (.cons rfl (.cons rfl (.cons rfl (.cons rfl (.cons rfl (.cons rfl (.nil _))))))) ?_
     refine ke_cond (t := o_1.Kind == 5) rfl (fun hc128 => ?_) (fun hc128 => ?_)
     ·replace hS := ite_true' hS hc128
      refine ke_region ?_
      refine sr_ev (v := .pointer (some ⟨gd_0, 0, none⟩)) (ev_move rfl) (by decide) ?_
      refine sr_ev (v := .pointer (some ⟨g6, 1, none⟩)) (ev_fieldAddr (i := 1) Tryz.underlying35 rfl Tryz.info9 rfl rfl) (by decide) ?_
      refine sr_ev (v := str o_1.User) (ev_load Tryz.isAgg9 rfl (hB10.cell rfl)) (by decide) ?_
      refine sr_ev (v := .pointer (some ⟨g6, 2, none⟩)) (ev_fieldAddr (i := 2) Tryz.underlying35 rfl Tryz.info9 rfl rfl) (by decide) ?_
      refine sr_ev (v := str o_1.ID) (ev_load Tryz.isAgg9 rfl (hB10.cell rfl)) (by decide) ?_
      obtain ⟨y129, hy130, hS⟩ := bind_some' hS
      refine sr_call (vs := [.pointer (some ⟨gd_0, 0, none⟩), str o_1.User, str o_1.ID]) rfl Tryz.call20 rfl (device_Devices_Revoke_ok _ (hg.fr hz hb) (ρA := ρ17) hb.bd (hz.fr hg hb) (o := 100) (by decide) (⟨_, hB3, h2⟩ : device_Devices.O (fun p => 100 + p) ρ17 w18 gd_0 d_0) hy130) (by decide) ?_
      rintro _ w131 ⟨ρ137, rfl, ⟨v134, hB136, h135⟩, htr133⟩
      replace hB20 := hB20.mv (htr133.mv (i := 9) rfl)
      replace hB15 := hB15.mv (htr133.mv (i := 8) rfl)
      replace hb := hb.trans htr133
      replace hB136 : Blk ρ137 100 w131 gd_0 (.cells #[v134, .int .i64 y129.2.given] 41 (0, 0)) := hB136
      replace h135 : MapT device_key.ek device_record.c true ρ137 101 w131 v134 y129.2.records := h135
      refine sr_ev (v := .pointer (some ⟨g16, 3, none⟩)) (ev_fieldAddr (i := 3) Tryz.underlying32 rfl Tryz.info4 rfl rfl) (by decide) ?_
      refine sr_storeT (v := .bool y129.1) (vs := [.bool y129.1]) (cs' := #[str ([]), (.slice none 0 0), .int .i64 0, .bool y129.1, .int .i64 0]) hB20 (by decide) hb.bd rfl rfl rfl Tryz.sizeOf4 rfl rfl rfl ?_
      intro w138 hB201 htr139
      replace hB15 := hB15.mv (htr139.mv (i := 8) rfl)
      replace hB136 := hB136.mv (htr139.mv (i := 100) rfl)
      replace h135 := h135.mv (htr139.mv (i := 101) rfl)
      replace hb := hb.trans htr139
      replace hB20 : Blk ρ137 9 w138 g16 (.cells #[str ([]), (.slice none 0 0), .int .i64 0, .bool y129.1, .int .i64 0] 32 (0, 0)) := hB201
      clear hB201
      refine sr_end (l' := [(6, .pointer (some ⟨g11, 0, none⟩)), (7, .pointer (some ⟨g16, 0, none⟩))]) (.cons rfl (.cons rfl (.nil _))) ?_
      have hK := law37_do_B1_ok hg hbd ho2 hz hS hb SlR.nil hB15 SlR.nil hB20 ⟨_, hB136, h135⟩
      exact ke_weaken (l' := [(6, .pointer (some ⟨g11, 0, none⟩)), (7, .pointer (some ⟨g16, 0, none⟩))]) (.cons rfl (.cons rfl (.nil _))) hK
     ·replace hS := ite_false' hS hc128
      refine ke_seq ?_
      refine ke_region ?_
      refine sr_ev (v := .bool (o_1.Kind == 6)) (ev_eq rfl rfl) (by decide) ?_
      refine sr_ev (v := .bool (o_1.Kind == 6)) (ev_assign rfl) (by decide) ?_
      refine sr_end (l' := [(0, .pointer (some ⟨gd_0, 0, none⟩)), (4, .pointer (some ⟨g6, 0, none⟩)), (6, .pointer (some ⟨g11, 0, none⟩)), (7, .pointer (some ⟨g16, 0, none⟩)), (9, .int .i64 o_1.Kind), (77, .bool (o_1.Kind == 6))]) (.cons rfl (.cons rfl (.cons rfl (.cons rfl (.cons rfl (.cons rfl (.nil _))))))) ?_
      refine ke_cond (t := o_1.Kind == 6) rfl (fun hc140 => ?_) (fun hc140 => ?_)
      ·replace hS := ite_true' hS hc140
       refine ke_region ?_
       refine sr_ev (v := .pointer (some ⟨gd_0, 0, none⟩)) (ev_move rfl) (by decide) ?_
       refine sr_ev (v := .pointer (some ⟨g6, 1, none⟩)) (ev_fieldAddr (i := 1) Tryz.underlying35 rfl Tryz.info9 rfl rfl) (by decide) ?_
       refine sr_ev (v := str o_1.User) (ev_load Tryz.isAgg9 rfl (hB10.cell rfl)) (by decide) ?_
       refine sr_ev (v := .pointer (some ⟨g6, 5, none⟩)) (ev_fieldAddr (i := 5) Tryz.underlying35 rfl Tryz.info3 rfl rfl) (by decide) ?_
       refine sr_ev (v := .int .i64 o_1.Now) (ev_load Tryz.isAgg3 rfl (hB10.cell rfl)) (by decide) ?_
       obtain ⟨y141, hy142, hS⟩ := bind_some' hS
       refine sr_call (vs := [.pointer (some ⟨gd_0, 0, none⟩), str o_1.User, .int .i64 o_1.Now]) rfl Tryz.call18 rfl (device_Devices_List_ok _ (hg.fr hz hb) (ρA := ρ17) hb.bd (hz.fr hg hb) (τ0 := (fun p => 100 + p)) (fun p => Nat.le_add_right_of_le (by decide)) (⟨_, hB3, h2⟩ : device_Devices.O (fun p => 100 + p) ρ17 w18 gd_0 d_0) hy142) (by decide) ?_
       rintro v146 w143 ⟨_, rfl, h147, hbw144⟩
       have htr145 := Tr.of_below hbw144 hb.bd
       replace hB20 := hB20.mv (htr145.mv (i := 9) rfl)
       replace hB15 := hB15.mv (htr145.mv (i := 8) rfl)
       replace hB3 := hB3.mv (htr145.mv (i := 100) rfl)
       replace h2 := h2.mv (htr145.mv (i := 101) rfl)
       replace hb := hb.trans htr145
       refine sr_ev (v := .pointer (some ⟨g16, 1, none⟩)) (ev_fieldAddr (i := 1) Tryz.underlying32 rfl Tryz.info29 rfl rfl) (by decide) ?_
       refine sr_storeT (v := v146) (vs := [v146]) (cs' := #[str ([]), v146, .int .i64 0, .bool false, .int .i64 0]) hB20 (by decide) hb.bd rfl rfl (one_cells (SlR.oneCell h147)) Tryz.sizeOf29 rfl (by first | rfl | (simp only [List.all_cons, List.all_nil, SlR.oneCell h147]; done) | (simp only [List.all_cons, List.all_nil, SlR.oneCell h147]; rfl)) rfl ?_
       intro w148 hB201 htr149
       replace h147 := h147.mv htr149.rd
       replace hB15 := hB15.mv (htr149.mv (i := 8) rfl)
       replace hB3 := hB3.mv (htr149.mv (i := 100) rfl)
       replace h2 := h2.mv (htr149.mv (i := 101) rfl)
       replace hb := hb.trans htr149
       replace hB20 : Blk ρ17 9 w148 g16 (.cells #[str ([]), v146, .int .i64 0, .bool false, .int .i64 0] 32 (0, 0)) := hB201
       clear hB201
       refine sr_end (l' := [(6, .pointer (some ⟨g11, 0, none⟩)), (7, .pointer (some ⟨g16, 0, none⟩))]) (.cons rfl (.cons rfl (.nil _))) ?_
       have hK := law37_do_B1_ok hg hbd ho2 hz hS hb SlR.nil hB15 h147 hB20 ⟨_, hB3, h2⟩
       exact ke_weaken (l' := [(6, .pointer (some ⟨g11, 0, none⟩)), (7, .pointer (some ⟨g16, 0, none⟩))]) (.cons rfl (.cons rfl (.nil _))) hK
      ·replace hS := ite_false' hS hc140
       refine ke_seq ?_
       refine ke_region ?_
       refine sr_ev (v := .bool (o_1.Kind == 7)) (ev_eq rfl rfl) (by decide) ?_
       refine sr_ev (v := .bool (o_1.Kind == 7)) (ev_assign rfl) (by decide) ?_
       refine sr_end (l' := [(0, .pointer (some ⟨gd_0, 0, none⟩)), (4, .pointer (some ⟨g6, 0, none⟩)), (6, .pointer (some ⟨g11, 0, none⟩)), (7, .pointer (some ⟨g16, 0, none⟩)), (9, .int .i64 o_1.Kind), (86, .bool (o_1.Kind == 7))]) (.cons rfl (.cons rfl (.cons rfl (.cons rfl (.cons rfl (.cons rfl (.nil _))))))) ?_
       refine ke_cond (t := o_1.Kind == 7) rfl (fun hc150 => ?_) (fun hc150 => ?_)
       ·replace hS := ite_true' hS hc150
        refine ke_region ?_
        refine sr_ev (v := .pointer (some ⟨gd_0, 0, none⟩)) (ev_move rfl) (by decide) ?_
        refine sr_ev (v := .pointer (some ⟨g6, 1, none⟩)) (ev_fieldAddr (i := 1) Tryz.underlying35 rfl Tryz.info9 rfl rfl) (by decide) ?_
        refine sr_ev (v := str o_1.User) (ev_load Tryz.isAgg9 rfl (hB10.cell rfl)) (by decide) ?_
        obtain ⟨y151, hy152, hS⟩ := bind_some' hS
        refine sr_call (vs := [.pointer (some ⟨gd_0, 0, none⟩), str o_1.User]) rfl Tryz.call19 rfl (device_Devices_Drop_ok _ (hg.fr hz hb) (ρA := ρ17) hb.bd (hz.fr hg hb) (o := 100) (by decide) (⟨_, hB3, h2⟩ : device_Devices.O (fun p => 100 + p) ρ17 w18 gd_0 d_0) hy152) (by decide) ?_
        rintro _ w153 ⟨ρ159, rfl, ⟨v156, hB158, h157⟩, htr155⟩
        replace hB20 := hB20.mv (htr155.mv (i := 9) rfl)
        replace hB15 := hB15.mv (htr155.mv (i := 8) rfl)
        replace hb := hb.trans htr155
        replace hB158 : Blk ρ159 100 w153 gd_0 (.cells #[v156, .int .i64 y151.2.given] 41 (0, 0)) := hB158
        replace h157 : MapT device_key.ek device_record.c true ρ159 101 w153 v156 y151.2.records := h157
        refine sr_ev (v := .pointer (some ⟨g16, 2, none⟩)) (ev_fieldAddr (i := 2) Tryz.underlying32 rfl Tryz.info3 rfl rfl) (by decide) ?_
        refine sr_storeT (v := .int .i64 y151.1) (vs := [.int .i64 y151.1]) (cs' := #[str ([]), (.slice none 0 0), .int .i64 y151.1, .bool false, .int .i64 0]) hB20 (by decide) hb.bd rfl rfl rfl Tryz.sizeOf3 rfl rfl rfl ?_
        intro w160 hB201 htr161
        replace hB15 := hB15.mv (htr161.mv (i := 8) rfl)
        replace hB158 := hB158.mv (htr161.mv (i := 100) rfl)
        replace h157 := h157.mv (htr161.mv (i := 101) rfl)
        replace hb := hb.trans htr161
        replace hB20 : Blk ρ159 9 w160 g16 (.cells #[str ([]), (.slice none 0 0), .int .i64 y151.1, .bool false, .int .i64 0] 32 (0, 0)) := hB201
        clear hB201
        refine sr_end (l' := [(6, .pointer (some ⟨g11, 0, none⟩)), (7, .pointer (some ⟨g16, 0, none⟩))]) (.cons rfl (.cons rfl (.nil _))) ?_
        have hK := law37_do_B1_ok hg hbd ho2 hz hS hb SlR.nil hB15 SlR.nil hB20 ⟨_, hB158, h157⟩
        exact ke_weaken (l' := [(6, .pointer (some ⟨g11, 0, none⟩)), (7, .pointer (some ⟨g16, 0, none⟩))]) (.cons rfl (.cons rfl (.nil _))) hK
       ·replace hS := ite_false' hS hc150
        refine ke_seq ?_
        refine ke_region ?_
        refine sr_ev (v := .bool (o_1.Kind == 8)) (ev_eq rfl rfl) (by decide) ?_
        refine sr_ev (v := .bool (o_1.Kind == 8)) (ev_assign rfl) (by decide) ?_
        refine sr_end (l' := [(0, .pointer (some ⟨gd_0, 0, none⟩)), (4, .pointer (some ⟨g6, 0, none⟩)), (6, .pointer (some ⟨g11, 0, none⟩)), (7, .pointer (some ⟨g16, 0, none⟩)), (93, .bool (o_1.Kind == 8))]) (.cons rfl (.cons rfl (.cons rfl (.cons rfl (.cons rfl (.nil _)))))) ?_
        refine ke_cond (t := o_1.Kind == 8) rfl (fun hc162 => ?_) (fun hc162 => ?_)
        ·replace hS := ite_true' hS hc162
         refine ke_region ?_
         refine sr_ev (v := .pointer (some ⟨gd_0, 0, none⟩)) (ev_move rfl) (by decide) ?_
         refine sr_ev (v := .pointer (some ⟨g6, 1, none⟩)) (ev_fieldAddr (i := 1) Tryz.underlying35 rfl Tryz.info9 rfl rfl) (by decide) ?_
         refine sr_ev (v := str o_1.User) (ev_load Tryz.isAgg9 rfl (hB10.cell rfl)) (by decide) ?_
         refine sr_ev (v := .pointer (some ⟨g6, 2, none⟩)) (ev_fieldAddr (i := 2) Tryz.underlying35 rfl Tryz.info9 rfl rfl) (by decide) ?_
         refine sr_ev (v := str o_1.ID) (ev_load Tryz.isAgg9 rfl (hB10.cell rfl)) (by decide) ?_
         refine sr_ev (v := .pointer (some ⟨g6, 5, none⟩)) (ev_fieldAddr (i := 5) Tryz.underlying35 rfl Tryz.info3 rfl rfl) (by decide) ?_
         refine sr_ev (v := .int .i64 o_1.Now) (ev_load Tryz.isAgg3 rfl (hB10.cell rfl)) (by decide) ?_
         obtain ⟨y163, hy164, hS⟩ := bind_some' hS
         refine sr_call (vs := [.pointer (some ⟨gd_0, 0, none⟩), str o_1.User, str o_1.ID, .int .i64 o_1.Now]) rfl Tryz.call17 rfl (device_Devices_Trusted_ok _ (hg.fr hz hb) (ρA := ρ17) hb.bd (hz.fr hg hb) (τ0 := (fun p => 100 + p)) (fun p => Nat.le_add_right_of_le (by decide)) (⟨_, hB3, h2⟩ : device_Devices.O (fun p => 100 + p) ρ17 w18 gd_0 d_0) hy164) (by decide) ?_
         rintro _ w165 ⟨rfl, hbw166⟩
         have htr167 := Tr.of_below hbw166 hb.bd
         replace hB20 := hB20.mv (htr167.mv (i := 9) rfl)
         replace hB15 := hB15.mv (htr167.mv (i := 8) rfl)
         replace hB3 := hB3.mv (htr167.mv (i := 100) rfl)
         replace h2 := h2.mv (htr167.mv (i := 101) rfl)
         replace hb := hb.trans htr167
         refine sr_ev (v := .pointer (some ⟨g16, 3, none⟩)) (ev_fieldAddr (i := 3) Tryz.underlying32 rfl Tryz.info4 rfl rfl) (by decide) ?_
         refine sr_storeT (v := .bool y163) (vs := [.bool y163]) (cs' := #[str ([]), (.slice none 0 0), .int .i64 0, .bool y163, .int .i64 0]) hB20 (by decide) hb.bd rfl rfl rfl Tryz.sizeOf4 rfl rfl rfl ?_
         intro w168 hB201 htr169
         replace hB15 := hB15.mv (htr169.mv (i := 8) rfl)
         replace hB3 := hB3.mv (htr169.mv (i := 100) rfl)
         replace h2 := h2.mv (htr169.mv (i := 101) rfl)
         replace hb := hb.trans htr169
         replace hB20 : Blk ρ17 9 w168 g16 (.cells #[str ([]), (.slice none 0 0), .int .i64 0, .bool y163, .int .i64 0] 32 (0, 0)) := hB201
         clear hB201
         refine sr_end (l' := [(6, .pointer (some ⟨g11, 0, none⟩)), (7, .pointer (some ⟨g16, 0, none⟩))]) (.cons rfl (.cons rfl (.nil _))) ?_
         have hK := law37_do_B1_ok hg hbd ho2 hz hS hb SlR.nil hB15 SlR.nil hB20 ⟨_, hB3, h2⟩
         exact ke_weaken (l' := [(6, .pointer (some ⟨g11, 0, none⟩)), (7, .pointer (some ⟨g16, 0, none⟩))]) (.cons rfl (.cons rfl (.nil _))) hK
        ·replace hS := ite_false' hS hc162
         refine ke_skip ?_
         have hK := law37_do_B1_ok hg hbd ho2 hz hS hb SlR.nil hB15 SlR.nil hB20 ⟨_, hB3, h2⟩
         exact ke_weaken (l' := [(6, .pointer (some ⟨g11, 0, none⟩)), (7, .pointer (some ⟨g16, 0, none⟩))]) (.cons rfl (.cons rfl (.nil _))) hK
theorem ref01_letter_ok (w0 : World) (hg : Gs w0) {c_0 : Int} {r : Bool} (hS : ref01_letter c_0 = some r) :
  Calls Tryz.prog 57 #[.int .u8 c_0] w0 (Ret (fun v w' => v = .bool r ∧ Below w0.heap.size w0 w')) := by
 unfold ref01_letter at hS
 have hb := Below.refl w0.heap.size w0
 refine calls_of_ke Tryz.func57 rfl (n := 17) rfl rfl (l := [(0, .int .u8 c_0)]) rfl ?_
 refine ke_seq ?_
 refine ke_region ?_
 refine sr_ev (v := .bool false) (ev_assign rfl) (by decide) ?_
 refine sr_end (l' := [(0, .int .u8 c_0)]) (.cons rfl (.nil _)) ?_
 refine ke_seq ?_
 refine ke_region ?_
 refine sr_ev (v := .int .u8 c_0) (ev_move rfl) (by decide) ?_
 refine sr_ev (v := .bool (decide (c_0 ≥ 97))) (ev_ge rfl rfl) (by decide) ?_
 refine sr_ev (v := .bool (decide (c_0 ≥ 97))) (ev_move rfl) (by decide) ?_
 refine sr_join (m := 3) (C := fun (x : Bool) w1 => x = ((decide (c_0 ≥ 97)) && (decide (c_0 ≤ 122))) ∧ w0 = w1) (l' := fun x => [(0, .int .u8 c_0), (8, .bool x)]) ?_ ?_
 ·rintro _ _ ⟨rfl, rfl⟩
  refine sr_ev (v := .bool ((decide (c_0 ≥ 97)) && (decide (c_0 ≤ 122)))) (ev_move rfl) (by decide) ?_
  refine sr_join (m := 7) (C := fun (x : Bool) w1 => x = (((decide (c_0 ≥ 97)) && (decide (c_0 ≤ 122))) || ((decide (c_0 ≥ 65)) && (decide (c_0 ≤ 90)))) ∧ w0 = w1) (l' := fun x => [(16, .bool x)]) ?_ ?_
  ·rintro _ _ ⟨rfl, rfl⟩
   refine sr_ev (v := .bool (((decide (c_0 ≥ 97)) && (decide (c_0 ≤ 122))) || ((decide (c_0 ≥ 65)) && (decide (c_0 ≤ 90))))) (ev_assign rfl) (by decide) ?_
   refine sr_end (l' := [(2, .bool (((decide (c_0 ≥ 97)) && (decide (c_0 ≤ 122))) || ((decide (c_0 ≥ 65)) && (decide (c_0 ≤ 90)))))]) (.cons rfl (.nil _)) ?_
   cases hS
   exact ke_ret1 Tryz.func57 rfl rfl ⟨_, rfl, rfl, hb⟩
  ·intro K9
   rcases Bool.eq_false_or_eq_true ((decide (c_0 ≥ 97)) && (decide (c_0 ≤ 122))) with hg8 | hg8
   ·refine sr_pass (e := 9) rfl rfl (by rw [hg8]; rfl) (by decide) ?_
    refine sr_pass (e := 9) rfl rfl (by rw [hg8]; rfl) (by decide) ?_
    refine sr_pass (e := 9) rfl rfl (by rw [hg8]; rfl) (by decide) ?_
    refine sr_pass_undef (e := 12) rfl rfl (by decide) ?_
    refine sr_pass_undef (e := 12) rfl rfl (by decide) ?_
    refine sr_pass (e := 9) rfl rfl (by rw [hg8]; rfl) (by decide) ?_
    refine sr_ev (v := .bool true) (ev_pick_t rfl hg8 rfl) (by decide) ?_
    exact sr_weaken (l' := [(16, .bool true)]) (.cons rfl (.nil _)) (K9 true _ ⟨by rw [hg8]; rfl, rfl⟩)
   ·refine sr_evg (b := false) (e := 9) rfl rfl hg8 (v := .int .u8 c_0) (ev_move rfl) (by decide) ?_
    refine sr_evg (b := false) (e := 9) rfl rfl hg8 (v := .bool (decide (c_0 ≥ 65))) (ev_ge rfl rfl) (by decide) ?_
    refine sr_evg (b := false) (e := 9) rfl rfl hg8 (v := .bool (decide (c_0 ≥ 65))) (ev_move rfl) (by decide) ?_
    refine sr_join (m := 3) (C := fun (x : Bool) w1 => x = ((decide (c_0 ≥ 65)) && (decide (c_0 ≤ 90))) ∧ w0 = w1) (l' := fun x => [(9, .bool ((decide (c_0 ≥ 97)) && (decide (c_0 ≤ 122)))), (15, .bool x)]) ?_ ?_
    ·rintro _ _ ⟨rfl, rfl⟩
     refine sr_ev (v := .bool ((decide (c_0 ≥ 65)) && (decide (c_0 ≤ 90)))) (ev_pick_f rfl hg8 rfl) (by decide) ?_
     exact sr_weaken (l' := [(16, .bool ((decide (c_0 ≥ 65)) && (decide (c_0 ≤ 90))))]) (.cons rfl (.nil _)) (K9 ((decide (c_0 ≥ 65)) && (decide (c_0 ≤ 90))) _ ⟨by rw [hg8]; rfl, rfl⟩)
    ·intro K16
     rcases Bool.eq_false_or_eq_true (decide (c_0 ≥ 65)) with hg15 | hg15
     ·refine sr_evg (b := true) (e := 12) rfl rfl hg15 (v := .int .u8 c_0) (ev_move rfl) (by decide) ?_
      refine sr_evg (b := true) (e := 12) rfl rfl hg15 (v := .bool (decide (c_0 ≤ 90))) (ev_le rfl rfl) (by decide) ?_
      refine sr_evg (b := false) (e := 9) rfl rfl hg8 (v := .bool (decide (c_0 ≤ 90))) (ev_pick_t rfl hg15 rfl) (by decide) ?_
      exact sr_weaken (l' := [(9, .bool ((decide (c_0 ≥ 97)) && (decide (c_0 ≤ 122)))), (15, .bool (decide (c_0 ≤ 90)))]) (.cons rfl (.cons rfl (.nil _))) (K16 (decide (c_0 ≤ 90)) _ ⟨by rw [hg15]; rfl, rfl⟩)
     ·refine sr_pass (e := 12) rfl rfl (by rw [hg15]; rfl) (by decide) ?_
      refine sr_pass (e := 12) rfl rfl (by rw [hg15]; rfl) (by decide) ?_
      refine sr_evg (b := false) (e := 9) rfl rfl hg8 (v := .bool false) (ev_pick_f rfl hg15 rfl) (by decide) ?_
      exact sr_weaken (l' := [(9, .bool ((decide (c_0 ≥ 97)) && (decide (c_0 ≤ 122)))), (15, .bool false)]) (.cons rfl (.cons rfl (.nil _))) (K16 false _ ⟨by rw [hg15]; rfl, rfl⟩)
 ·intro K2
  rcases Bool.eq_false_or_eq_true (decide (c_0 ≥ 97)) with hg1 | hg1
  ·refine sr_evg (b := true) (e := 5) rfl rfl hg1 (v := .int .u8 c_0) (ev_move rfl) (by decide) ?_
   refine sr_evg (b := true) (e := 5) rfl rfl hg1 (v := .bool (decide (c_0 ≤ 122))) (ev_le rfl rfl) (by decide) ?_
   refine sr_ev (v := .bool (decide (c_0 ≤ 122))) (ev_pick_t rfl hg1 rfl) (by decide) ?_
   exact sr_weaken (l' := [(0, .int .u8 c_0), (8, .bool (decide (c_0 ≤ 122)))]) (.cons rfl (.cons rfl (.nil _))) (K2 (decide (c_0 ≤ 122)) _ ⟨by rw [hg1]; rfl, rfl⟩)
  ·refine sr_pass (e := 5) rfl rfl (by rw [hg1]; rfl) (by decide) ?_
   refine sr_pass (e := 5) rfl rfl (by rw [hg1]; rfl) (by decide) ?_
   refine sr_ev (v := .bool false) (ev_pick_f rfl hg1 rfl) (by decide) ?_
   exact sr_weaken (l' := [(0, .int .u8 c_0), (8, .bool false)]) (.cons rfl (.cons rfl (.nil _))) (K2 false _ ⟨by rw [hg1]; rfl, rfl⟩)
theorem ref01_digit_ok (w0 : World) (hg : Gs w0) {c_0 : Int} {r : Bool} (hS : ref01_digit c_0 = some r) :
  Calls Tryz.prog 58 #[.int .u8 c_0] w0 (Ret (fun v w' => v = .bool r ∧ Below w0.heap.size w0 w')) := by
 unfold ref01_digit at hS
 have hb := Below.refl w0.heap.size w0
 refine calls_of_ke Tryz.func58 rfl (n := 9) rfl rfl (l := [(0, .int .u8 c_0)]) rfl ?_
 refine ke_seq ?_
 refine ke_region ?_
 refine sr_ev (v := .bool false) (ev_assign rfl) (by decide) ?_
 refine sr_end (l' := [(0, .int .u8 c_0)]) (.cons rfl (.nil _)) ?_
 refine ke_seq ?_
 refine ke_region ?_
 refine sr_ev (v := .int .u8 c_0) (ev_move rfl) (by decide) ?_
 refine sr_ev (v := .bool (decide (c_0 ≥ 48))) (ev_ge rfl rfl) (by decide) ?_
 refine sr_ev (v := .bool (decide (c_0 ≥ 48))) (ev_move rfl) (by decide) ?_
 refine sr_join (m := 3) (C := fun (x : Bool) w1 => x = ((decide (c_0 ≥ 48)) && (decide (c_0 ≤ 57))) ∧ w0 = w1) (l' := fun x => [(8, .bool x)]) ?_ ?_
 ·rintro _ _ ⟨rfl, rfl⟩
  refine sr_ev (v := .bool ((decide (c_0 ≥ 48)) && (decide (c_0 ≤ 57)))) (ev_assign rfl) (by decide) ?_
  refine sr_end (l' := [(2, .bool ((decide (c_0 ≥ 48)) && (decide (c_0 ≤ 57))))]) (.cons rfl (.nil _)) ?_
  cases hS
  exact ke_ret1 Tryz.func58 rfl rfl ⟨_, rfl, rfl, hb⟩
 ·intro K2
  rcases Bool.eq_false_or_eq_true (decide (c_0 ≥ 48)) with hg1 | hg1
  ·refine sr_evg (b := true) (e := 5) rfl rfl hg1 (v := .int .u8 c_0) (ev_move rfl) (by decide) ?_
   refine sr_evg (b := true) (e := 5) rfl rfl hg1 (v := .bool (decide (c_0 ≤ 57))) (ev_le rfl rfl) (by decide) ?_
   refine sr_ev (v := .bool (decide (c_0 ≤ 57))) (ev_pick_t rfl hg1 rfl) (by decide) ?_
   exact sr_weaken (l' := [(8, .bool (decide (c_0 ≤ 57)))]) (.cons rfl (.nil _)) (K2 (decide (c_0 ≤ 57)) _ ⟨by rw [hg1]; rfl, rfl⟩)
  ·refine sr_pass (e := 5) rfl rfl (by rw [hg1]; rfl) (by decide) ?_
   refine sr_pass (e := 5) rfl rfl (by rw [hg1]; rfl) (by decide) ?_
   refine sr_ev (v := .bool false) (ev_pick_f rfl hg1 rfl) (by decide) ?_
   exact sr_weaken (l' := [(8, .bool false)]) (.cons rfl (.nil _)) (K2 false _ ⟨by rw [hg1]; rfl, rfl⟩)
theorem ref01_Word_L1_ok {w0 : World} (hg : Gs w0) : ∀ (n : Nat), ∀ {r : Bool} {s_0 : Str} {i_3 : Int}, ref01_Word_L1 n s_0 i_3 = some r → ∀ {w : World}, (Below w0.heap.size w0 w) → KE Tryz.prog 39 (Ret (fun v w' => v = .bool r ∧ Below w0.heap.size w0 w')) 54 [.code (sub (bodyOf Tryz.f39) [2, 1, 2, 2, 1]), .inLoop (sub (bodyOf Tryz.f39) [2, 1, 2, 2, 1]), .inBlock 0, .code (sub (bodyOf Tryz.f39) [2, 2])] [(0, str s_0), (3, .int .i64 i_3)] w := by
 intro n
 induction n with
 | zero => intro r s_0 i_3 hS; cases hS
 | succ n ih =>
  have hr0 : ∀ {r : Bool} {s_0 : Str} {i_3 : Int}, ref01_Word_L1 n s_0 i_3 = some r → ∀ {w : World}, (Below w0.heap.size w0 w) → KE Tryz.prog 39 (Ret (fun v w' => v = .bool r ∧ Below w0.heap.size w0 w')) 54 [.inLoop (sub (bodyOf Tryz.f39) [2, 1, 2, 2, 1]), .inBlock 0, .code (sub (bodyOf Tryz.f39) [2, 2])] [(0, str s_0), (3, .int .i64 i_3)] w := fun {r} {s_0} {i_3} hS {w} hb => ke_inLoop (ih hS hb)
  clear ih
  intro r s_0 i_3 hS w hb
  unfold ref01_Word_L1 at hS
  refine ke_seq ?_
  refine ke_seq ?_
  refine ke_region ?_
  refine sr_ev (v := .int .i64 i_3) (ev_move rfl) (by decide) ?_
  refine sr_ev (v := str s_0) (ev_move rfl) (by decide) ?_
  refine sr_ev (v := .int .i64 (s_0.length : Int)) (ev_slen Tryz.underlying9 rfl) (by decide) ?_
  refine sr_ev (v := .bool (decide (i_3 < (s_0.length : Int)))) (ev_lt rfl rfl) (by decide) ?_
  refine sr_end (l' := [(0, str s_0), (3, .int .i64 i_3), (7, .bool (decide (i_3 < (s_0.length : Int))))]) (.cons rfl (.cons rfl (.cons rfl (.nil _)))) ?_
  refine ke_cond (t := decide (i_3 < (s_0.length : Int))) rfl (fun hc1 => ?_) (fun hc1 => ?_)
  ·replace hS := ite_true' hS hc1
   refine ke_skip ?_
   refine ke_seq ?_
   refine ke_block ?_
   refine ke_seq ?_
   refine ke_region ?_
   refine sr_ev (v := str s_0) (ev_move rfl) (by decide) ?_
   refine sr_ev (v := .int .i64 i_3) (ev_move rfl) (by decide) ?_
   obtain ⟨hk2, hS⟩ := chk_some hS
   refine sr_ev (v := .int .u8 (byteAt s_0 i_3)) (ev_sindex Tryz.underlying9 rfl rfl hk2) (by decide) ?_
   obtain ⟨y3, hy4, hS⟩ := bind_some' hS
   refine sr_call (vs := [.int .u8 (byteAt s_0 i_3)]) rfl Tryz.call57 rfl (ref01_letter_ok _ (hg.below hb) hy4) (by decide) ?_
   rintro _ w5 ⟨rfl, hbw6⟩
   replace hb := hb.trans (hbw6.mono hb.size)
   refine sr_ev (v := .bool (!y3)) (ev_not rfl) (by decide) ?_
   refine sr_ev (v := .bool (!y3)) (ev_move rfl) (by decide) ?_
   obtain ⟨z9, hz11, hS⟩ := bind_some' hS
   refine sr_join (m := 6) (C := fun (x : Bool) w1 => z9 = x ∧ Below w5.heap.size w5 w1) (l' := fun x => [(0, str s_0), (3, .int .i64 i_3), (21, .bool x)]) ?_ ?_
   ·rintro _ w12 ⟨rfl, hbw13⟩
    replace hb := hb.trans (hbw13.mono hb.size)
    refine sr_ev (v := .bool z9) (ev_move rfl) (by decide) ?_
    obtain ⟨z21, hz23, hS⟩ := bind_some' hS
    refine sr_join (m := 5) (C := fun (x : Bool) w1 => z21 = x ∧ Below w12.heap.size w12 w1) (l' := fun x => [(0, str s_0), (3, .int .i64 i_3), (27, .bool x)]) ?_ ?_
    ·rintro _ w24 ⟨rfl, hbw25⟩
     replace hb := hb.trans (hbw25.mono hb.size)
     refine sr_ev (v := .bool z21) (ev_move rfl) (by decide) ?_
     obtain ⟨z29, hz31, hS⟩ := bind_some' hS
     refine sr_join (m := 5) (C := fun (x : Bool) w1 => z29 = x ∧ Below w24.heap.size w24 w1) (l' := fun x => [(0, str s_0), (3, .int .i64 i_3), (33, .bool x)]) ?_ ?_
     ·rintro _ w32 ⟨rfl, hbw33⟩
      replace hb := hb.trans (hbw33.mono hb.size)
      refine sr_ev (v := .bool z29) (ev_move rfl) (by decide) ?_
      obtain ⟨z37, hz39, hS⟩ := bind_some' hS
      refine sr_join (m := 5) (C := fun (x : Bool) w1 => z37 = x ∧ Below w32.heap.size w32 w1) (l' := fun x => [(0, str s_0), (3, .int .i64 i_3), (39, .bool x)]) ?_ ?_
      ·rintro _ w40 ⟨rfl, hbw41⟩
       replace hb := hb.trans (hbw41.mono hb.size)
       refine sr_ev (v := .bool z37) (ev_move rfl) (by decide) ?_
       obtain ⟨z45, hz47, hS⟩ := bind_some' hS
       refine sr_join (m := 5) (C := fun (x : Bool) w1 => z45 = x ∧ Below w40.heap.size w40 w1) (l' := fun x => [(0, str s_0), (3, .int .i64 i_3), (45, .bool x)]) ?_ ?_
       ·rintro _ w48 ⟨rfl, hbw49⟩
        replace hb := hb.trans (hbw49.mono hb.size)
        refine sr_end (l' := [(0, str s_0), (3, .int .i64 i_3), (45, .bool z45)]) (.cons rfl (.cons rfl (.cons rfl (.nil _)))) ?_
        refine ke_cond (t := z45) rfl (fun hc51 => ?_) (fun hc51 => ?_)
        ·replace hS := ite_true' hS hc51
         refine ke_seq ?_
         refine ke_region ?_
         refine sr_ev (v := .bool false) (ev_assign rfl) (by decide) ?_
         refine sr_end (l' := [(2, .bool false)]) (.cons rfl (.nil _)) ?_
         cases hS
         exact ke_ret1 Tryz.func39 rfl rfl ⟨_, rfl, rfl, hb⟩
        ·replace hS := ite_false' hS hc51
         refine ke_skip ?_
         refine ke_inBlock ?_
         refine ke_region ?_
         refine sr_ev (v := .int .i64 i_3) (ev_move rfl) (by decide) ?_
         refine sr_ev (v := .int .i64 (IntKind.i64.wrap (i_3 + 1))) (ev_add rfl rfl) (by decide) ?_
         refine sr_ev (v := .int .i64 (IntKind.i64.wrap (i_3 + 1))) (ev_assign rfl) (by decide) ?_
         refine sr_end (l' := [(0, str s_0), (3, .int .i64 (IntKind.i64.wrap (i_3 + 1)))]) (.cons rfl (.cons rfl (.nil _))) ?_
         have hK := hr0 hS hb
         exact ke_weaken (l' := [(0, str s_0), (3, .int .i64 (IntKind.i64.wrap (i_3 + 1)))]) (.cons rfl (.cons rfl (.nil _))) hK
       ·intro K44
        clear hS
        have hj46 := Below.refl w40.heap.size w40
        rcases Bool.eq_false_or_eq_true z37 with hg43 | hg43
        ·have hS := ite_true' hz47 hg43
         refine sr_evg (b := true) (e := 40) rfl rfl hg43 (v := str s_0) (ev_move rfl) (by decide) ?_
         refine sr_evg (b := true) (e := 40) rfl rfl hg43 (v := .int .i64 i_3) (ev_move rfl) (by decide) ?_
         obtain ⟨hk50, hS⟩ := chk_some hS
         refine sr_evg (b := true) (e := 40) rfl rfl hg43 (v := .int .u8 (byteAt s_0 i_3)) (ev_sindex Tryz.underlying9 rfl rfl hk50) (by decide) ?_
         refine sr_evg (b := true) (e := 40) rfl rfl hg43 (v := .bool ((byteAt s_0 i_3) != 58)) (ev_ne rfl rfl) (by decide) ?_
         refine sr_ev (v := .bool ((byteAt s_0 i_3) != 58)) (ev_pick_t rfl hg43 rfl) (by decide) ?_
         exact sr_weaken (l' := [(0, str s_0), (3, .int .i64 i_3), (45, .bool ((byteAt s_0 i_3) != 58))]) (.cons rfl (.cons rfl (.cons rfl (.nil _)))) (K44 ((byteAt s_0 i_3) != 58) _ ⟨(Option.some.inj hS).symm, hj46⟩)
        ·have hS := ite_false' hz47 hg43
         refine sr_pass (e := 40) rfl rfl (by rw [hg43]; rfl) (by decide) ?_
         refine sr_pass (e := 40) rfl rfl (by rw [hg43]; rfl) (by decide) ?_
         refine sr_pass (e := 40) rfl rfl (by rw [hg43]; rfl) (by decide) ?_
         refine sr_pass (e := 40) rfl rfl (by rw [hg43]; rfl) (by decide) ?_
         refine sr_ev (v := .bool false) (ev_pick_f rfl hg43 rfl) (by decide) ?_
         exact sr_weaken (l' := [(0, str s_0), (3, .int .i64 i_3), (45, .bool false)]) (.cons rfl (.cons rfl (.cons rfl (.nil _)))) (K44 false _ ⟨(Option.some.inj hS).symm, hj46⟩)
      ·intro K36
       clear hS
       have hj38 := Below.refl w32.heap.size w32
       rcases Bool.eq_false_or_eq_true z29 with hg35 | hg35
       ·have hS := ite_true' hz39 hg35
        refine sr_evg (b := true) (e := 34) rfl rfl hg35 (v := str s_0) (ev_move rfl) (by decide) ?_
        refine sr_evg (b := true) (e := 34) rfl rfl hg35 (v := .int .i64 i_3) (ev_move rfl) (by decide) ?_
        obtain ⟨hk42, hS⟩ := chk_some hS
        refine sr_evg (b := true) (e := 34) rfl rfl hg35 (v := .int .u8 (byteAt s_0 i_3)) (ev_sindex Tryz.underlying9 rfl rfl hk42) (by decide) ?_
        refine sr_evg (b := true) (e := 34) rfl rfl hg35 (v := .bool ((byteAt s_0 i_3) != 46)) (ev_ne rfl rfl) (by decide) ?_
        refine sr_ev (v := .bool ((byteAt s_0 i_3) != 46)) (ev_pick_t rfl hg35 rfl) (by decide) ?_
        exact sr_weaken (l' := [(0, str s_0), (3, .int .i64 i_3), (39, .bool ((byteAt s_0 i_3) != 46))]) (.cons rfl (.cons rfl (.cons rfl (.nil _)))) (K36 ((byteAt s_0 i_3) != 46) _ ⟨(Option.some.inj hS).symm, hj38⟩)
       ·have hS := ite_false' hz39 hg35
        refine sr_pass (e := 34) rfl rfl (by rw [hg35]; rfl) (by decide) ?_
        refine sr_pass (e := 34) rfl rfl (by rw [hg35]; rfl) (by decide) ?_
        refine sr_pass (e := 34) rfl rfl (by rw [hg35]; rfl) (by decide) ?_
        refine sr_pass (e := 34) rfl rfl (by rw [hg35]; rfl) (by decide) ?_
        refine sr_ev (v := .bool false) (ev_pick_f rfl hg35 rfl) (by decide) ?_
        exact sr_weaken (l' := [(0, str s_0), (3, .int .i64 i_3), (39, .bool false)]) (.cons rfl (.cons rfl (.cons rfl (.nil _)))) (K36 false _ ⟨(Option.some.inj hS).symm, hj38⟩)
     ·intro K28
      clear hS
      have hj30 := Below.refl w24.heap.size w24
      rcases Bool.eq_false_or_eq_true z21 with hg27 | hg27
      ·have hS := ite_true' hz31 hg27
       refine sr_evg (b := true) (e := 28) rfl rfl hg27 (v := str s_0) (ev_move rfl) (by decide) ?_
       refine sr_evg (b := true) (e := 28) rfl rfl hg27 (v := .int .i64 i_3) (ev_move rfl) (by decide) ?_
       obtain ⟨hk34, hS⟩ := chk_some hS
       refine sr_evg (b := true) (e := 28) rfl rfl hg27 (v := .int .u8 (byteAt s_0 i_3)) (ev_sindex Tryz.underlying9 rfl rfl hk34) (by decide) ?_
       refine sr_evg (b := true) (e := 28) rfl rfl hg27 (v := .bool ((byteAt s_0 i_3) != 95)) (ev_ne rfl rfl) (by decide) ?_
       refine sr_ev (v := .bool ((byteAt s_0 i_3) != 95)) (ev_pick_t rfl hg27 rfl) (by decide) ?_
       exact sr_weaken (l' := [(0, str s_0), (3, .int .i64 i_3), (33, .bool ((byteAt s_0 i_3) != 95))]) (.cons rfl (.cons rfl (.cons rfl (.nil _)))) (K28 ((byteAt s_0 i_3) != 95) _ ⟨(Option.some.inj hS).symm, hj30⟩)
      ·have hS := ite_false' hz31 hg27
       refine sr_pass (e := 28) rfl rfl (by rw [hg27]; rfl) (by decide) ?_
       refine sr_pass (e := 28) rfl rfl (by rw [hg27]; rfl) (by decide) ?_
       refine sr_pass (e := 28) rfl rfl (by rw [hg27]; rfl) (by decide) ?_
       refine sr_pass (e := 28) rfl rfl (by rw [hg27]; rfl) (by decide) ?_
       refine sr_ev (v := .bool false) (ev_pick_f rfl hg27 rfl) (by decide) ?_
       exact sr_weaken (l' := [(0, str s_0), (3, .int .i64 i_3), (33, .bool false)]) (.cons rfl (.cons rfl (.cons rfl (.nil _)))) (K28 false _ ⟨(Option.some.inj hS).symm, hj30⟩)
    ·intro K20
     clear hS
     have hj22 := Below.refl w12.heap.size w12
     rcases Bool.eq_false_or_eq_true z9 with hg19 | hg19
     ·have hS := ite_true' hz23 hg19
      refine sr_evg (b := true) (e := 22) rfl rfl hg19 (v := str s_0) (ev_move rfl) (by decide) ?_
      refine sr_evg (b := true) (e := 22) rfl rfl hg19 (v := .int .i64 i_3) (ev_move rfl) (by decide) ?_
      obtain ⟨hk26, hS⟩ := chk_some hS
      refine sr_evg (b := true) (e := 22) rfl rfl hg19 (v := .int .u8 (byteAt s_0 i_3)) (ev_sindex Tryz.underlying9 rfl rfl hk26) (by decide) ?_
      refine sr_evg (b := true) (e := 22) rfl rfl hg19 (v := .bool ((byteAt s_0 i_3) != 45)) (ev_ne rfl rfl) (by decide) ?_
      refine sr_ev (v := .bool ((byteAt s_0 i_3) != 45)) (ev_pick_t rfl hg19 rfl) (by decide) ?_
      exact sr_weaken (l' := [(0, str s_0), (3, .int .i64 i_3), (27, .bool ((byteAt s_0 i_3) != 45))]) (.cons rfl (.cons rfl (.cons rfl (.nil _)))) (K20 ((byteAt s_0 i_3) != 45) _ ⟨(Option.some.inj hS).symm, hj22⟩)
     ·have hS := ite_false' hz23 hg19
      refine sr_pass (e := 22) rfl rfl (by rw [hg19]; rfl) (by decide) ?_
      refine sr_pass (e := 22) rfl rfl (by rw [hg19]; rfl) (by decide) ?_
      refine sr_pass (e := 22) rfl rfl (by rw [hg19]; rfl) (by decide) ?_
      refine sr_pass (e := 22) rfl rfl (by rw [hg19]; rfl) (by decide) ?_
      refine sr_ev (v := .bool false) (ev_pick_f rfl hg19 rfl) (by decide) ?_
      exact sr_weaken (l' := [(0, str s_0), (3, .int .i64 i_3), (27, .bool false)]) (.cons rfl (.cons rfl (.cons rfl (.nil _)))) (K20 false _ ⟨(Option.some.inj hS).symm, hj22⟩)
   ·intro K8
    clear hS
    have hj10 := Below.refl w5.heap.size w5
    rcases Bool.eq_false_or_eq_true (!y3) with hg7 | hg7
    ·have hS := ite_true' hz11 hg7
     refine sr_evg (b := true) (e := 15) rfl rfl hg7 (v := str s_0) (ev_move rfl) (by decide) ?_
     refine sr_evg (b := true) (e := 15) rfl rfl hg7 (v := .int .i64 i_3) (ev_move rfl) (by decide) ?_
     obtain ⟨hk14, hS⟩ := chk_some hS
     refine sr_evg (b := true) (e := 15) rfl rfl hg7 (v := .int .u8 (byteAt s_0 i_3)) (ev_sindex Tryz.underlying9 rfl rfl hk14) (by decide) ?_
     obtain ⟨y15, hy16, hS⟩ := bind_some' hS
     refine sr_callg (b := true) (e := 15) rfl rfl hg7 (vs := [.int .u8 (byteAt s_0 i_3)]) rfl Tryz.call58 rfl (ref01_digit_ok _ (hg.below hb) hy16) (by decide) ?_
     rintro _ w17 ⟨rfl, hbw18⟩
     replace hb := hb.trans (hbw18.mono hb.size)
     replace hj10 := hj10.trans (hbw18.mono hj10.size)
     refine sr_evg (b := true) (e := 15) rfl rfl hg7 (v := .bool (!y15)) (ev_not rfl) (by decide) ?_
     refine sr_ev (v := .bool (!y15)) (ev_pick_t rfl hg7 rfl) (by decide) ?_
     exact sr_weaken (l' := [(0, str s_0), (3, .int .i64 i_3), (21, .bool (!y15))]) (.cons rfl (.cons rfl (.cons rfl (.nil _)))) (K8 (!y15) _ ⟨(Option.some.inj hS).symm, hj10⟩)
    ·have hS := ite_false' hz11 hg7
     refine sr_pass (e := 15) rfl rfl (by rw [hg7]; rfl) (by decide) ?_
     refine sr_pass (e := 15) rfl rfl (by rw [hg7]; rfl) (by decide) ?_
     refine sr_pass (e := 15) rfl rfl (by rw [hg7]; rfl) (by decide) ?_
     refine sr_pass (e := 15) rfl rfl (by rw [hg7]; rfl) (by decide) ?_
     refine sr_pass (e := 15) rfl rfl (by rw [hg7]; rfl) (by decide) ?_
     refine sr_ev (v := .bool false) (ev_pick_f rfl hg7 rfl) (by decide) ?_
     exact sr_weaken (l' := [(0, str s_0), (3, .int .i64 i_3), (21, .bool false)]) (.cons rfl (.cons rfl (.cons rfl (.nil _)))) (K8 false _ ⟨(Option.some.inj hS).symm, hj10⟩)
  ·replace hS := ite_false' hS hc1
   refine ke_exit (k' := _) rfl ?_
   refine ke_seq ?_
   refine ke_region ?_
   refine sr_ev (v := str s_0) (ev_move rfl) (by decide) ?_
   refine sr_ev (v := .int .i64 (s_0.length : Int)) (ev_slen Tryz.underlying9 rfl) (by decide) ?_
   refine sr_ev (v := .bool (decide ((s_0.length : Int) ≥ 1))) (ev_ge rfl rfl) (by decide) ?_
   refine sr_ev (v := .bool (decide ((s_0.length : Int) ≥ 1))) (ev_move rfl) (by decide) ?_
   refine sr_join (m := 4) (C := fun (x : Bool) w1 => x = ((decide ((s_0.length : Int) ≥ 1)) && (decide ((s_0.length : Int) ≤ 64))) ∧ w = w1) (l' := fun x => [(53, .bool x)]) ?_ ?_
   ·rintro _ _ ⟨rfl, rfl⟩
    refine sr_ev (v := .bool ((decide ((s_0.length : Int) ≥ 1)) && (decide ((s_0.length : Int) ≤ 64)))) (ev_assign rfl) (by decide) ?_
    refine sr_end (l' := [(2, .bool ((decide ((s_0.length : Int) ≥ 1)) && (decide ((s_0.length : Int) ≤ 64))))]) (.cons rfl (.nil _)) ?_
    cases hS
    exact ke_ret1 Tryz.func39 rfl rfl ⟨_, rfl, rfl, hb⟩
   ·intro K53
    rcases Bool.eq_false_or_eq_true (decide ((s_0.length : Int) ≥ 1)) with hg52 | hg52
    ·refine sr_evg (b := true) (e := 49) rfl rfl hg52 (v := str s_0) (ev_move rfl) (by decide) ?_
     refine sr_evg (b := true) (e := 49) rfl rfl hg52 (v := .int .i64 (s_0.length : Int)) (ev_slen Tryz.underlying9 rfl) (by decide) ?_
     refine sr_evg (b := true) (e := 49) rfl rfl hg52 (v := .bool (decide ((s_0.length : Int) ≤ 64))) (ev_le rfl rfl) (by decide) ?_
     refine sr_ev (v := .bool (decide ((s_0.length : Int) ≤ 64))) (ev_pick_t rfl hg52 rfl) (by decide) ?_
     exact sr_weaken (l' := [(53, .bool (decide ((s_0.length : Int) ≤ 64)))]) (.cons rfl (.nil _)) (K53 (decide ((s_0.length : Int) ≤ 64)) _ ⟨by rw [hg52]; rfl, rfl⟩)
    ·refine sr_pass (e := 49) rfl rfl (by rw [hg52]; rfl) (by decide) ?_
     refine sr_pass (e := 49) rfl rfl (by rw [hg52]; rfl) (by decide) ?_
     refine sr_pass (e := 49) rfl rfl (by rw [hg52]; rfl) (by decide) ?_
     refine sr_ev (v := .bool false) (ev_pick_f rfl hg52 rfl) (by decide) ?_
     exact sr_weaken (l' := [(53, .bool false)]) (.cons rfl (.nil _)) (K53 false _ ⟨by rw [hg52]; rfl, rfl⟩)
theorem ref01_Word_ok (w0 : World) (hg : Gs w0) {s_0 : Str} {r : Bool} (hS : ref01_Word s_0 = some r) :
  Calls Tryz.prog 39 #[str s_0] w0 (Ret (fun v w' => v = .bool r ∧ Below w0.heap.size w0 w')) := by
 unfold ref01_Word at hS
 have hb := Below.refl w0.heap.size w0
 refine calls_of_ke Tryz.func39 rfl (n := 54) rfl rfl (l := [(0, str s_0)]) rfl ?_
 refine ke_seq ?_
 refine ke_region ?_
 refine sr_ev (v := .bool false) (ev_assign rfl) (by decide) ?_
 refine sr_end (l' := [(0, str s_0)]) (.cons rfl (.nil _)) ?_
 refine ke_seq ?_
 refine ke_seq ?_
 refine ke_region ?_
 refine sr_ev (v := .int .i64 0) (ev_assign rfl) (by decide) ?_
 refine sr_end (l' := [(0, str s_0), (3, .int .i64 0)]) (.cons rfl (.cons rfl (.nil _))) ?_
 refine ke_block ?_
 have hK := ref01_Word_L1_ok hg _ hS hb
 exact ke_weaken (l' := [(0, str s_0), (3, .int .i64 0)]) (.cons rfl (.cons rfl (.nil _))) (ke_loop hK)
theorem ref01_Clean_L1_ok {w0 : World} (hg : Gs w0) : ∀ (n : Nat), ∀ {r : Bool} {s_0 : Str} {i_3 : Int}, ref01_Clean_L1 n s_0 i_3 = some r → ∀ {w : World}, (Below w0.heap.size w0 w) → KE Tryz.prog 40 (Ret (fun v w' => v = .bool r ∧ Below w0.heap.size w0 w')) 41 [.code (sub (bodyOf Tryz.f40) [2, 2, 1, 2, 2, 1]), .inLoop (sub (bodyOf Tryz.f40) [2, 2, 1, 2, 2, 1]), .inBlock 0, .code (sub (bodyOf Tryz.f40) [2, 2, 2])] [(0, str s_0), (3, .int .i64 i_3)] w := by
 intro n
 induction n with
 | zero => intro r s_0 i_3 hS; cases hS
 | succ n ih =>
  have hr0 : ∀ {r : Bool} {s_0 : Str} {i_3 : Int}, ref01_Clean_L1 n s_0 i_3 = some r → ∀ {w : World}, (Below w0.heap.size w0 w) → KE Tryz.prog 40 (Ret (fun v w' => v = .bool r ∧ Below w0.heap.size w0 w')) 41 [.inLoop (sub (bodyOf Tryz.f40) [2, 2, 1, 2, 2, 1]), .inBlock 0, .code (sub (bodyOf Tryz.f40) [2, 2, 2])] [(0, str s_0), (3, .int .i64 i_3)] w := fun {r} {s_0} {i_3} hS {w} hb => ke_inLoop (ih hS hb)
  clear ih
  intro r s_0 i_3 hS w hb
  unfold ref01_Clean_L1 at hS
  refine ke_seq ?_
  refine ke_seq ?_
  refine ke_region ?_
  refine sr_ev (v := .int .i64 i_3) (ev_move rfl) (by decide) ?_
  refine sr_ev (v := str s_0) (ev_move rfl) (by decide) ?_
  refine sr_ev (v := .int .i64 (s_0.length : Int)) (ev_slen Tryz.underlying9 rfl) (by decide) ?_
  refine sr_ev (v := .bool (decide (i_3 < (s_0.length : Int)))) (ev_lt rfl rfl) (by decide) ?_
  refine sr_end (l' := [(0, str s_0), (3, .int .i64 i_3), (28, .bool (decide (i_3 < (s_0.length : Int))))]) (.cons rfl (.cons rfl (.cons rfl (.nil _)))) ?_
  refine ke_cond (t := decide (i_3 < (s_0.length : Int))) rfl (fun hc25 => ?_) (fun hc25 => ?_)
  ·replace hS := ite_true' hS hc25
   refine ke_skip ?_
   refine ke_seq ?_
   refine ke_block ?_
   refine ke_seq ?_
   refine ke_region ?_
   refine sr_ev (v := str s_0) (ev_move rfl) (by decide) ?_
   refine sr_ev (v := .int .i64 i_3) (ev_move rfl) (by decide) ?_
   obtain ⟨hk26, hS⟩ := chk_some hS
   refine sr_ev (v := .int .u8 (byteAt s_0 i_3)) (ev_sindex Tryz.underlying9 rfl rfl hk26) (by decide) ?_
   refine sr_ev (v := .bool (decide ((byteAt s_0 i_3) < 32))) (ev_lt rfl rfl) (by decide) ?_
   refine sr_ev (v := .bool (decide ((byteAt s_0 i_3) < 32))) (ev_move rfl) (by decide) ?_
   obtain ⟨z29, hz31, hS⟩ := bind_some' hS
   refine sr_join (m := 5) (C := fun (x : Bool) w1 => z29 = x ∧ Below w.heap.size w w1) (l' := fun x => [(0, str s_0), (3, .int .i64 i_3), (40, .bool x)]) ?_ ?_
   ·rintro _ w32 ⟨rfl, hbw33⟩
    replace hb := hb.trans (hbw33.mono hb.size)
    refine sr_end (l' := [(0, str s_0), (3, .int .i64 i_3), (40, .bool z29)]) (.cons rfl (.cons rfl (.cons rfl (.nil _)))) ?_
    refine ke_cond (t := z29) rfl (fun hc35 => ?_) (fun hc35 => ?_)
    ·replace hS := ite_true' hS hc35
     refine ke_seq ?_
     refine ke_region ?_
     refine sr_ev (v := .bool false) (ev_assign rfl) (by decide) ?_
     refine sr_end (l' := [(2, .bool false)]) (.cons rfl (.nil _)) ?_
     cases hS
     exact ke_ret1 Tryz.func40 rfl rfl ⟨_, rfl, rfl, hb⟩
    ·replace hS := ite_false' hS hc35
     refine ke_skip ?_
     refine ke_inBlock ?_
     refine ke_region ?_
     refine sr_ev (v := .int .i64 i_3) (ev_move rfl) (by decide) ?_
     refine sr_ev (v := .int .i64 (IntKind.i64.wrap (i_3 + 1))) (ev_add rfl rfl) (by decide) ?_
     refine sr_ev (v := .int .i64 (IntKind.i64.wrap (i_3 + 1))) (ev_assign rfl) (by decide) ?_
     refine sr_end (l' := [(0, str s_0), (3, .int .i64 (IntKind.i64.wrap (i_3 + 1)))]) (.cons rfl (.cons rfl (.nil _))) ?_
     have hK := hr0 hS hb
     exact ke_weaken (l' := [(0, str s_0), (3, .int .i64 (IntKind.i64.wrap (i_3 + 1)))]) (.cons rfl (.cons rfl (.nil _))) hK
   ·intro K28
    clear hS
    have hj30 := Below.refl w.heap.size w
    rcases Bool.eq_false_or_eq_true (decide ((byteAt s_0 i_3) < 32)) with hg27 | hg27
    ·have hS := ite_true' hz31 hg27
     refine sr_pass (e := 35) rfl rfl (by rw [hg27]; rfl) (by decide) ?_
     refine sr_pass (e := 35) rfl rfl (by rw [hg27]; rfl) (by decide) ?_
     refine sr_pass (e := 35) rfl rfl (by rw [hg27]; rfl) (by decide) ?_
     refine sr_pass (e := 35) rfl rfl (by rw [hg27]; rfl) (by decide) ?_
     refine sr_ev (v := .bool true) (ev_pick_t rfl hg27 rfl) (by decide) ?_
     exact sr_weaken (l' := [(0, str s_0), (3, .int .i64 i_3), (40, .bool true)]) (.cons rfl (.cons rfl (.cons rfl (.nil _)))) (K28 true _ ⟨(Option.some.inj hS).symm, hj30⟩)
    ·have hS := ite_false' hz31 hg27
     refine sr_evg (b := false) (e := 35) rfl rfl hg27 (v := str s_0) (ev_move rfl) (by decide) ?_
     refine sr_evg (b := false) (e := 35) rfl rfl hg27 (v := .int .i64 i_3) (ev_move rfl) (by decide) ?_
     obtain ⟨hk34, hS⟩ := chk_some hS
     refine sr_evg (b := false) (e := 35) rfl rfl hg27 (v := .int .u8 (byteAt s_0 i_3)) (ev_sindex Tryz.underlying9 rfl rfl hk34) (by decide) ?_
     refine sr_evg (b := false) (e := 35) rfl rfl hg27 (v := .bool (decide ((byteAt s_0 i_3) > 126))) (ev_gt rfl rfl) (by decide) ?_
     refine sr_ev (v := .bool (decide ((byteAt s_0 i_3) > 126))) (ev_pick_f rfl hg27 rfl) (by decide) ?_
     exact sr_weaken (l' := [(0, str s_0), (3, .int .i64 i_3), (40, .bool (decide ((byteAt s_0 i_3) > 126)))]) (.cons rfl (.cons rfl (.cons rfl (.nil _)))) (K28 (decide ((byteAt s_0 i_3) > 126)) _ ⟨(Option.some.inj hS).symm, hj30⟩)
  ·replace hS := ite_false' hS hc25
   refine ke_exit (k' := _) rfl ?_
   refine ke_seq ?_
   refine ke_region ?_
   refine sr_ev (v := .bool true) (ev_assign rfl) (by decide) ?_
   refine sr_end (l' := [(2, .bool true)]) (.cons rfl (.nil _)) ?_
   cases hS
   exact ke_ret1 Tryz.func40 rfl rfl ⟨_, rfl, rfl, hb⟩
theorem ref01_Clean_ok (w0 : World) (hg : Gs w0) {s_0 : Str} {r : Bool} (hS : ref01_Clean s_0 = some r) :
  Calls Tryz.prog 40 #[str s_0] w0 (Ret (fun v w' => v = .bool r ∧ Below w0.heap.size w0 w')) := by
 unfold ref01_Clean at hS
 have hb := Below.refl w0.heap.size w0
 refine calls_of_ke Tryz.func40 rfl (n := 41) rfl rfl (l := [(0, str s_0)]) rfl ?_
 refine ke_seq ?_
 refine ke_region ?_
 refine sr_ev (v := .bool false) (ev_assign rfl) (by decide) ?_
 refine sr_end (l' := [(0, str s_0)]) (.cons rfl (.nil _)) ?_
 refine ke_seq ?_
 refine ke_seq ?_
 refine ke_region ?_
 refine sr_ev (v := str s_0) (ev_move rfl) (by decide) ?_
 refine sr_ev (v := .int .i64 (s_0.length : Int)) (ev_slen Tryz.underlying9 rfl) (by decide) ?_
 refine sr_ev (v := .bool (decide ((s_0.length : Int) < 1))) (ev_lt rfl rfl) (by decide) ?_
 refine sr_ev (v := .bool (decide ((s_0.length : Int) < 1))) (ev_move rfl) (by decide) ?_
 refine sr_join (m := 4) (C := fun (x : Bool) w1 => x = ((decide ((s_0.length : Int) < 1)) || (decide ((s_0.length : Int) > 256))) ∧ w0 = w1) (l' := fun x => [(0, str s_0), (11, .bool x)]) ?_ ?_
 ·rintro _ _ ⟨rfl, rfl⟩
  refine sr_ev (v := .bool ((decide ((s_0.length : Int) < 1)) || (decide ((s_0.length : Int) > 256)))) (ev_move rfl) (by decide) ?_
  obtain ⟨z10, hz12, hS⟩ := bind_some' hS
  refine sr_join (m := 4) (C := fun (x : Bool) w1 => z10 = x ∧ Below w0.heap.size w0 w1) (l' := fun x => [(0, str s_0), (16, .bool x)]) ?_ ?_
  ·rintro _ w13 ⟨rfl, hbw14⟩
   replace hb := hb.trans (hbw14.mono hb.size)
   refine sr_ev (v := .bool z10) (ev_move rfl) (by decide) ?_
   obtain ⟨z18, hz20, hS⟩ := bind_some' hS
   refine sr_join (m := 7) (C := fun (x : Bool) w1 => z18 = x ∧ Below w13.heap.size w13 w1) (l' := fun x => [(0, str s_0), (24, .bool x)]) ?_ ?_
   ·rintro _ w21 ⟨rfl, hbw22⟩
    replace hb := hb.trans (hbw22.mono hb.size)
    refine sr_end (l' := [(0, str s_0), (24, .bool z18)]) (.cons rfl (.cons rfl (.nil _))) ?_
    refine ke_cond (t := z18) rfl (fun hc24 => ?_) (fun hc24 => ?_)
    ·replace hS := ite_true' hS hc24
     refine ke_seq ?_
     refine ke_region ?_
     refine sr_ev (v := .bool false) (ev_assign rfl) (by decide) ?_
     refine sr_end (l' := [(2, .bool false)]) (.cons rfl (.nil _)) ?_
     cases hS
     exact ke_ret1 Tryz.func40 rfl rfl ⟨_, rfl, rfl, hb⟩
    ·replace hS := ite_false' hS hc24
     refine ke_skip ?_
     refine ke_seq ?_
     refine ke_seq ?_
     refine ke_region ?_
     refine sr_ev (v := .int .i64 0) (ev_assign rfl) (by decide) ?_
     refine sr_end (l' := [(0, str s_0), (3, .int .i64 0)]) (.cons rfl (.cons rfl (.nil _))) ?_
     refine ke_block ?_
     have hK := ref01_Clean_L1_ok hg _ hS hb
     exact ke_weaken (l' := [(0, str s_0), (3, .int .i64 0)]) (.cons rfl (.cons rfl (.nil _))) (ke_loop hK)
   ·intro K17
    clear hS
    have hj19 := Below.refl w13.heap.size w13
    rcases Bool.eq_false_or_eq_true z10 with hg16 | hg16
    ·have hS := ite_true' hz20 hg16
     refine sr_pass (e := 17) rfl rfl (by rw [hg16]; rfl) (by decide) ?_
     refine sr_pass (e := 17) rfl rfl (by rw [hg16]; rfl) (by decide) ?_
     refine sr_pass (e := 17) rfl rfl (by rw [hg16]; rfl) (by decide) ?_
     refine sr_pass (e := 17) rfl rfl (by rw [hg16]; rfl) (by decide) ?_
     refine sr_pass (e := 17) rfl rfl (by rw [hg16]; rfl) (by decide) ?_
     refine sr_pass (e := 17) rfl rfl (by rw [hg16]; rfl) (by decide) ?_
     refine sr_ev (v := .bool true) (ev_pick_t rfl hg16 rfl) (by decide) ?_
     exact sr_weaken (l' := [(0, str s_0), (24, .bool true)]) (.cons rfl (.cons rfl (.nil _))) (K17 true _ ⟨(Option.some.inj hS).symm, hj19⟩)
    ·have hS := ite_false' hz20 hg16
     refine sr_evg (b := false) (e := 17) rfl rfl hg16 (v := str s_0) (ev_move rfl) (by decide) ?_
     refine sr_evg (b := false) (e := 17) rfl rfl hg16 (v := str s_0) (ev_move rfl) (by decide) ?_
     refine sr_evg (b := false) (e := 17) rfl rfl hg16 (v := .int .i64 (s_0.length : Int)) (ev_slen Tryz.underlying9 rfl) (by decide) ?_
     refine sr_evg (b := false) (e := 17) rfl rfl hg16 (v := .int .i64 (IntKind.i64.wrap ((s_0.length : Int) - 1))) (ev_sub rfl rfl) (by decide) ?_
     obtain ⟨hk23, hS⟩ := chk_some hS
     refine sr_evg (b := false) (e := 17) rfl rfl hg16 (v := .int .u8 (byteAt s_0 (IntKind.i64.wrap ((s_0.length : Int) - 1)))) (ev_sindex Tryz.underlying9 rfl rfl hk23) (by decide) ?_
     refine sr_evg (b := false) (e := 17) rfl rfl hg16 (v := .bool ((byteAt s_0 (IntKind.i64.wrap ((s_0.length : Int) - 1))) == 32)) (ev_eq rfl rfl) (by decide) ?_
     refine sr_ev (v := .bool ((byteAt s_0 (IntKind.i64.wrap ((s_0.length : Int) - 1))) == 32)) (ev_pick_f rfl hg16 rfl) (by decide) ?_
     exact sr_weaken (l' := [(0, str s_0), (24, .bool ((byteAt s_0 (IntKind.i64.wrap ((s_0.length : Int) - 1))) == 32))]) (.cons rfl (.cons rfl (.nil _))) (K17 ((byteAt s_0 (IntKind.i64.wrap ((s_0.length : Int) - 1))) == 32) _ ⟨(Option.some.inj hS).symm, hj19⟩)
  ·intro K9
   clear hS
   have hj11 := Below.refl w0.heap.size w0
   rcases Bool.eq_false_or_eq_true ((decide ((s_0.length : Int) < 1)) || (decide ((s_0.length : Int) > 256))) with hg8 | hg8
   ·have hS := ite_true' hz12 hg8
    refine sr_pass (e := 12) rfl rfl (by rw [hg8]; rfl) (by decide) ?_
    refine sr_pass (e := 12) rfl rfl (by rw [hg8]; rfl) (by decide) ?_
    refine sr_pass (e := 12) rfl rfl (by rw [hg8]; rfl) (by decide) ?_
    refine sr_ev (v := .bool true) (ev_pick_t rfl hg8 rfl) (by decide) ?_
    exact sr_weaken (l' := [(0, str s_0), (16, .bool true)]) (.cons rfl (.cons rfl (.nil _))) (K9 true _ ⟨(Option.some.inj hS).symm, hj11⟩)
   ·have hS := ite_false' hz12 hg8
    refine sr_evg (b := false) (e := 12) rfl rfl hg8 (v := str s_0) (ev_move rfl) (by decide) ?_
    obtain ⟨hk15, hS⟩ := chk_some hS
    refine sr_evg (b := false) (e := 12) rfl rfl hg8 (v := .int .u8 (byteAt s_0 0)) (ev_sindex Tryz.underlying9 rfl rfl hk15) (by decide) ?_
    refine sr_evg (b := false) (e := 12) rfl rfl hg8 (v := .bool ((byteAt s_0 0) == 32)) (ev_eq rfl rfl) (by decide) ?_
    refine sr_ev (v := .bool ((byteAt s_0 0) == 32)) (ev_pick_f rfl hg8 rfl) (by decide) ?_
    exact sr_weaken (l' := [(0, str s_0), (16, .bool ((byteAt s_0 0) == 32))]) (.cons rfl (.cons rfl (.nil _))) (K9 ((byteAt s_0 0) == 32) _ ⟨(Option.some.inj hS).symm, hj11⟩)
 ·intro K2
  rcases Bool.eq_false_or_eq_true (decide ((s_0.length : Int) < 1)) with hg1 | hg1
  ·refine sr_pass (e := 7) rfl rfl (by rw [hg1]; rfl) (by decide) ?_
   refine sr_pass (e := 7) rfl rfl (by rw [hg1]; rfl) (by decide) ?_
   refine sr_pass (e := 7) rfl rfl (by rw [hg1]; rfl) (by decide) ?_
   refine sr_ev (v := .bool true) (ev_pick_t rfl hg1 rfl) (by decide) ?_
   exact sr_weaken (l' := [(0, str s_0), (11, .bool true)]) (.cons rfl (.cons rfl (.nil _))) (K2 true _ ⟨by rw [hg1]; rfl, rfl⟩)
  ·refine sr_evg (b := false) (e := 7) rfl rfl hg1 (v := str s_0) (ev_move rfl) (by decide) ?_
   refine sr_evg (b := false) (e := 7) rfl rfl hg1 (v := .int .i64 (s_0.length : Int)) (ev_slen Tryz.underlying9 rfl) (by decide) ?_
   refine sr_evg (b := false) (e := 7) rfl rfl hg1 (v := .bool (decide ((s_0.length : Int) > 256))) (ev_gt rfl rfl) (by decide) ?_
   refine sr_ev (v := .bool (decide ((s_0.length : Int) > 256))) (ev_pick_f rfl hg1 rfl) (by decide) ?_
   exact sr_weaken (l' := [(0, str s_0), (11, .bool (decide ((s_0.length : Int) > 256)))]) (.cons rfl (.cons rfl (.nil _))) (K2 (decide ((s_0.length : Int) > 256)) _ ⟨by rw [hg1]; rfl, rfl⟩)
theorem ref15_Instant_ok (w0 : World) (hg : Gs w0) {n_0 : Int} {r : Int} (hS : ref15_Instant n_0 = some r) :
  Calls Tryz.prog 41 #[.int .i64 n_0] w0 (Ret (fun v w' => v = .int .i64 r ∧ Below w0.heap.size w0 w')) := by
 unfold ref15_Instant at hS
 have hb := Below.refl w0.heap.size w0
 refine calls_of_ke Tryz.func41 rfl (n := 8) rfl rfl (l := [(0, .int .i64 n_0)]) rfl ?_
 refine ke_seq ?_
 refine ke_region ?_
 refine sr_ev (v := .int .i64 0) (ev_assign rfl) (by decide) ?_
 refine sr_end (l' := [(0, .int .i64 n_0)]) (.cons rfl (.nil _)) ?_
 refine ke_seq ?_
 refine ke_seq ?_
 refine ke_region ?_
 refine sr_ev (v := .int .i64 n_0) (ev_move rfl) (by decide) ?_
 refine sr_ev (v := .bool (decide (n_0 < 0))) (ev_lt rfl rfl) (by decide) ?_
 refine sr_end (l' := [(0, .int .i64 n_0), (4, .bool (decide (n_0 < 0)))]) (.cons rfl (.cons rfl (.nil _))) ?_
 refine ke_cond (t := decide (n_0 < 0)) rfl (fun hc1 => ?_) (fun hc1 => ?_)
 ·replace hS := ite_true' hS hc1
  refine ke_seq ?_
  refine ke_region ?_
  refine sr_ev (v := .int .i64 0) (ev_assign rfl) (by decide) ?_
  refine sr_end (l' := [(2, .int .i64 0)]) (.cons rfl (.nil _)) ?_
  cases hS
  exact ke_ret1 Tryz.func41 rfl rfl ⟨_, rfl, rfl, hb⟩
 ·replace hS := ite_false' hS hc1
  refine ke_skip ?_
  refine ke_seq ?_
  refine ke_seq ?_
  refine ke_region ?_
  refine sr_ev (v := .int .i64 n_0) (ev_move rfl) (by decide) ?_
  refine sr_ev (v := .bool (decide (n_0 > 1099511627776))) (ev_gt rfl rfl) (by decide) ?_
  refine sr_end (l' := [(0, .int .i64 n_0), (6, .bool (decide (n_0 > 1099511627776)))]) (.cons rfl (.cons rfl (.nil _))) ?_
  refine ke_cond (t := decide (n_0 > 1099511627776)) rfl (fun hc2 => ?_) (fun hc2 => ?_)
  ·replace hS := ite_true' hS hc2
   refine ke_seq ?_
   refine ke_region ?_
   refine sr_ev (v := .int .i64 1099511627776) (ev_assign rfl) (by decide) ?_
   refine sr_end (l' := [(2, .int .i64 1099511627776)]) (.cons rfl (.nil _)) ?_
   cases hS
   exact ke_ret1 Tryz.func41 rfl rfl ⟨_, rfl, rfl, hb⟩
  ·replace hS := ite_false' hS hc2
   refine ke_skip ?_
   refine ke_seq ?_
   refine ke_region ?_
   refine sr_ev (v := .int .i64 n_0) (ev_move rfl) (by decide) ?_
   refine sr_ev (v := .int .i64 n_0) (ev_assign rfl) (by decide) ?_
   refine sr_end (l' := [(2, .int .i64 n_0)]) (.cons rfl (.nil _)) ?_
   cases hS
   exact ke_ret1 Tryz.func41 rfl rfl ⟨_, rfl, rfl, hb⟩
theorem ref37_Devices_find_L1_ok {w0 : World} (hg : Gs w0) {ρA : Tags} (hbd : ∀ b, ρA b ≠ 0 → b < w0.heap.size) (hz : Gz (flat1 ρA)) : ∀ (n : Nat), ∀ {r : Int} {od_0 : ref37_Devices} {user_1 : Str} {id_2 : Str} {i_7 : Int} {gd_0 : Nat}, ref37_Devices_find_L1 n od_0 user_1 id_2 i_7 = some r → ∀ {ρ : Tags} {w : World}, (Fr (flat1 ρA) w0 ρ w) → (ref37_Devices.O (fun _ => 1) ρ w gd_0 od_0) → KE Tryz.prog 42 (Ret (fun v w' => v = .int .i64 r ∧ Below w0.heap.size w0 w')) 40 [.code (sub (bodyOf Tryz.f42) [2, 1, 2, 2, 1]), .inLoop (sub (bodyOf Tryz.f42) [2, 1, 2, 2, 1]), .inBlock 0, .code (sub (bodyOf Tryz.f42) [2, 2])] [(0, .pointer (some ⟨gd_0, 0, none⟩)), (1, str user_1), (2, str id_2), (7, .int .i64 i_7)] w := by
 intro n
 induction n with
 | zero => intro r od_0 user_1 id_2 i_7 gd_0 hS; cases hS
 | succ n ih =>
  have hr0 : ∀ {r : Int} {od_0 : ref37_Devices} {user_1 : Str} {id_2 : Str} {i_7 : Int} {gd_0 : Nat}, ref37_Devices_find_L1 n od_0 user_1 id_2 i_7 = some r → ∀ {ρ : Tags} {w : World}, (Fr (flat1 ρA) w0 ρ w) → (ref37_Devices.O (fun _ => 1) ρ w gd_0 od_0) → KE Tryz.prog 42 (Ret (fun v w' => v = .int .i64 r ∧ Below w0.heap.size w0 w')) 40 [.inLoop (sub (bodyOf Tryz.f42) [2, 1, 2, 2, 1]), .inBlock 0, .code (sub (bodyOf Tryz.f42) [2, 2])] [(0, .pointer (some ⟨gd_0, 0, none⟩)), (1, str user_1), (2, str id_2), (7, .int .i64 i_7)] w := fun {r} {od_0} {user_1} {id_2} {i_7} {gd_0} hS {ρ} {w} hb hod_0 => ke_inLoop (ih hS hb hod_0)
  clear ih
  intro r od_0 user_1 id_2 i_7 gd_0 hS ρ w hb hod_0
  unfold ref37_Devices_find_L1 at hS
  obtain ⟨v4, hB6, h5⟩ := hod_0
  replace hB6 : Blk ρ 1 w gd_0 (.cells #[v4, .int .i64 od_0.N] 55 (0, 0)) := hB6
  replace h5 : OwnT ref37_Device.c 70 ρ 1 w v4 od_0.L := h5
  refine ke_seq ?_
  refine ke_seq ?_
  refine ke_region ?_
  refine sr_ev (v := .int .i64 i_7) (ev_move rfl) (by decide) ?_
  refine sr_ev (v := .pointer (some ⟨gd_0, 0, none⟩)) (ev_move rfl) (by decide) ?_
  refine sr_ev (v := .pointer (some ⟨gd_0, 0, none⟩)) (ev_nilCheck rfl) (by decide) ?_
  refine sr_ev (v := .pointer (some ⟨gd_0, 0, none⟩)) (ev_fieldAddr (i := 0) Tryz.underlying55 rfl Tryz.info53 rfl rfl) (by decide) ?_
  refine sr_ev (v := v4) (ev_load Tryz.isAgg53 rfl (hB6.cell rfl)) (by decide) ?_
  refine sr_ev (v := .int .i64 (od_0.L.length : Int)) (ev_sllen Tryz.underlying53 rfl h5.asSl) (by decide) ?_
  refine sr_ev (v := .bool (decide (i_7 < (od_0.L.length : Int)))) (ev_lt rfl rfl) (by decide) ?_
  refine sr_end (l' := [(0, .pointer (some ⟨gd_0, 0, none⟩)), (1, str user_1), (2, str id_2), (7, .int .i64 i_7), (14, .bool (decide (i_7 < (od_0.L.length : Int))))]) (.cons rfl (.cons rfl (.cons rfl (.cons rfl (.cons rfl (.nil _)))))) ?_
  refine ke_cond (t := decide (i_7 < (od_0.L.length : Int))) rfl (fun hc7 => ?_) (fun hc7 => ?_)
  ·replace hS := ite_true' hS hc7
   refine ke_skip ?_
   refine ke_seq ?_
   refine ke_block ?_
   refine ke_seq ?_
   refine ke_region ?_
   refine sr_ev (v := .pointer (some ⟨gd_0, 0, none⟩)) (ev_move rfl) (by decide) ?_
   refine sr_ev (v := .pointer (some ⟨gd_0, 0, none⟩)) (ev_nilCheck rfl) (by decide) ?_
   refine sr_ev (v := .pointer (some ⟨gd_0, 0, none⟩)) (ev_fieldAddr (i := 0) Tryz.underlying55 rfl Tryz.info53 rfl rfl) (by decide) ?_
   refine sr_ev (v := v4) (ev_load Tryz.isAgg53 rfl (hB6.cell rfl)) (by decide) ?_
   refine sr_ev (v := .int .i64 i_7) (ev_move rfl) (by decide) ?_
   obtain ⟨y8, hy9, hS⟩ := bind_some' hS
   obtain ⟨b10, o11, cs13, hq14, he12, hg15, ho16⟩ := h5.elemQ (P := Tryz.prog) Tryz.underlying53 Tryz.info70 rfl hy9
   obtain rfl : cs13 = [str y8.User, str y8.ID, str y8.Secret, str y8.Challenge, .int .i64 y8.Until] := he12.rd
   refine sr_ev (v := .pointer (some ⟨b10, o11, none⟩)) (hq14 w rfl rfl) (by decide) ?_
   refine sr_ev (v := .pointer (some ⟨b10, o11 + 0, none⟩)) (ev_fieldAddr (i := 0) Tryz.underlying70 rfl Tryz.info9 rfl rfl) (by decide) ?_
   refine sr_ev (v := str y8.User) (ev_load Tryz.isAgg9 rfl (he12.cell 0 _ rfl)) (by decide) ?_
   refine sr_ev (v := str user_1) (ev_move rfl) (by decide) ?_
   refine sr_ev (v := .bool (y8.User == user_1)) (ev_seq rfl rfl) (by decide) ?_
   refine sr_ev (v := .bool (y8.User == user_1)) (ev_move rfl) (by decide) ?_
   obtain ⟨z19, hz21, hS⟩ := bind_some' hS
   refine sr_join (m := 11) (C := fun (z : Bool) w1 => z19 = z ∧ ∃ ρ1, Tr ρ w (fun _ => false) ρ1 w1) (l' := fun z => [(0, .pointer (some ⟨gd_0, 0, none⟩)), (1, str user_1), (2, str id_2), (7, .int .i64 i_7), (38, .bool z)]) ?_ ?_
   ·rintro _ w22 ⟨rfl, ρ23, hj20⟩
    replace hB6 := hB6.mv (hj20.mv (i := 1) rfl)
    replace h5 := h5.mv (hj20.mv (i := 1) rfl) (by decide)
    replace hb := hb.trans hj20
    refine sr_end (l' := [(0, .pointer (some ⟨gd_0, 0, none⟩)), (1, str user_1), (2, str id_2), (7, .int .i64 i_7), (38, .bool z19)]) (.cons rfl (.cons rfl (.cons rfl (.cons rfl (.cons rfl (.nil _)))))) ?_
    refine ke_cond (t := z19) rfl (fun hc34 => ?_) (fun hc34 => ?_)
    ·replace hS := ite_true' hS hc34
     refine ke_seq ?_
     refine ke_region ?_
     refine sr_ev (v := .int .i64 i_7) (ev_move rfl) (by decide) ?_
     refine sr_ev (v := .int .i64 i_7) (ev_assign rfl) (by decide) ?_
     refine sr_end (l' := [(6, .int .i64 i_7)]) (.cons rfl (.nil _)) ?_
     cases hS
     exact ke_ret1 Tryz.func42 rfl rfl ⟨_, rfl, rfl, (hb.below (flat1_le _))⟩
    ·replace hS := ite_false' hS hc34
     refine ke_skip ?_
     refine ke_inBlock ?_
     refine ke_region ?_
     refine sr_ev (v := .int .i64 i_7) (ev_move rfl) (by decide) ?_
     refine sr_ev (v := .int .i64 (IntKind.i64.wrap (i_7 + 1))) (ev_add rfl rfl) (by decide) ?_
     refine sr_ev (v := .int .i64 (IntKind.i64.wrap (i_7 + 1))) (ev_assign rfl) (by decide) ?_
     refine sr_end (l' := [(0, .pointer (some ⟨gd_0, 0, none⟩)), (1, str user_1), (2, str id_2), (7, .int .i64 (IntKind.i64.wrap (i_7 + 1)))]) (.cons rfl (.cons rfl (.cons rfl (.cons rfl (.nil _))))) ?_
     have hK := hr0 hS hb ⟨_, hB6, h5⟩
     exact ke_weaken (l' := [(0, .pointer (some ⟨gd_0, 0, none⟩)), (1, str user_1), (2, str id_2), (7, .int .i64 (IntKind.i64.wrap (i_7 + 1)))]) (.cons rfl (.cons rfl (.cons rfl (.cons rfl (.nil _))))) hK
   ·intro K18
    clear hS
    have hj20 : Tr ρ w (fun _ => false) ρ w := (Tr.refl hb.bd).weak (fun _ _ => rfl) rfl rfl
    rcases Bool.eq_false_or_eq_true (y8.User == user_1) with hg17 | hg17
    ·have hS := ite_true' hz21 hg17
     refine sr_evg (b := true) (e := 27) rfl rfl hg17 (v := .pointer (some ⟨gd_0, 0, none⟩)) (ev_move rfl) (by decide) ?_
     refine sr_evg (b := true) (e := 27) rfl rfl hg17 (v := .pointer (some ⟨gd_0, 0, none⟩)) (ev_nilCheck rfl) (by decide) ?_
     refine sr_evg (b := true) (e := 27) rfl rfl hg17 (v := .pointer (some ⟨gd_0, 0, none⟩)) (ev_fieldAddr (i := 0) Tryz.underlying55 rfl Tryz.info53 rfl rfl) (by decide) ?_
     refine sr_evg (b := true) (e := 27) rfl rfl hg17 (v := v4) (ev_load Tryz.isAgg53 rfl (hB6.cell rfl)) (by decide) ?_
     refine sr_evg (b := true) (e := 27) rfl rfl hg17 (v := .int .i64 i_7) (ev_move rfl) (by decide) ?_
     obtain ⟨y25, hy26, hS⟩ := bind_some' hS
     obtain ⟨b27, o28, cs30, hq31, he29, hg32, ho33⟩ := h5.elemQ (P := Tryz.prog) Tryz.underlying53 Tryz.info70 rfl hy26
     obtain rfl : cs30 = [str y25.User, str y25.ID, str y25.Secret, str y25.Challenge, .int .i64 y25.Until] := he29.rd
     refine sr_evg (b := true) (e := 27) rfl rfl hg17 (v := .pointer (some ⟨b27, o28, none⟩)) (hq31 w rfl rfl) (by decide) ?_
     refine sr_evg (b := true) (e := 27) rfl rfl hg17 (v := .pointer (some ⟨b27, o28 + 1, none⟩)) (ev_fieldAddr (i := 1) Tryz.underlying70 rfl Tryz.info9 rfl rfl) (by decide) ?_
     refine sr_evg (b := true) (e := 27) rfl rfl hg17 (v := str y25.ID) (ev_load Tryz.isAgg9 rfl (he29.cell 1 _ rfl)) (by decide) ?_
     refine sr_evg (b := true) (e := 27) rfl rfl hg17 (v := str id_2) (ev_move rfl) (by decide) ?_
     refine sr_evg (b := true) (e := 27) rfl rfl hg17 (v := .bool (y25.ID == id_2)) (ev_seq rfl rfl) (by decide) ?_
     refine sr_ev (v := .bool (y25.ID == id_2)) (ev_pick_t rfl hg17 rfl) (by decide) ?_
     exact sr_weaken (l' := [(0, .pointer (some ⟨gd_0, 0, none⟩)), (1, str user_1), (2, str id_2), (7, .int .i64 i_7), (38, .bool (y25.ID == id_2))]) (.cons rfl (.cons rfl (.cons rfl (.cons rfl (.cons rfl (.nil _)))))) (K18 (y25.ID == id_2) _ ⟨(Option.some.inj hS).symm, _, hj20⟩)
    ·have hS := ite_false' hz21 hg17
     refine sr_pass (e := 27) rfl rfl (by rw [hg17]; rfl) (by decide) ?_
     refine sr_pass (e := 27) rfl rfl (by rw [hg17]; rfl) (by decide) ?_
     refine sr_pass (e := 27) rfl rfl (by rw [hg17]; rfl) (by decide) ?_
     refine sr_pass (e := 27) rfl rfl (by rw [hg17]; rfl) (by decide) ?_
     refine sr_pass (e := 27) rfl rfl (by rw [hg17]; rfl) (by decide) ?_
     refine sr_pass (e := 27) rfl rfl (by rw [hg17]; rfl) (by decide) ?_
     refine sr_pass (e := 27) rfl rfl (by rw [hg17]; rfl) (by decide) ?_
     refine sr_pass (e := 27) rfl rfl (by rw [hg17]; rfl) (by decide) ?_
     refine sr_pass (e := 27) rfl rfl (by rw [hg17]; rfl) (by decide) ?_
     refine sr_pass (e := 27) rfl rfl (by rw [hg17]; rfl) (by decide) ?_
     refine sr_ev (v := .bool false) (ev_pick_f rfl hg17 rfl) (by decide) ?_
     exact sr_weaken (l' := [(0, .pointer (some ⟨gd_0, 0, none⟩)), (1, str user_1), (2, str id_2), (7, .int .i64 i_7), (38, .bool false)]) (.cons rfl (.cons rfl (.cons rfl (.cons rfl (.cons rfl (.nil _)))))) (K18 false _ ⟨(Option.some.inj hS).symm, _, hj20⟩)
  ·replace hS := ite_false' hS hc7
   refine ke_exit (k' := _) rfl ?_
   refine ke_seq ?_
   refine ke_region ?_
   refine sr_ev (v := .int .i64 (-1)) (ev_assign rfl) (by decide) ?_
   refine sr_end (l' := [(6, .int .i64 (-1))]) (.cons rfl (.nil _)) ?_
   cases hS
   exact ke_ret1 Tryz.func42 rfl rfl ⟨_, rfl, rfl, (hb.below (flat1_le _))⟩
theorem ref37_Devices_find_ok (w0 : World) (hg : Gs w0) {ρA : Tags} (hbd : ∀ b, ρA b ≠ 0 → b < w0.heap.size) (hz : Gz ρA) {τ0 : Nat → Nat} (hτ0 : ∀ p, 1 ≤ τ0 p) {d_0 : ref37_Devices} {user_1 : Str} {id_2 : Str} {gd_0 : Nat} {r : Int} (ho0 : ref37_Devices.O τ0 ρA w0 gd_0 d_0) (hS : ref37_Devices_find d_0 user_1 id_2 = some r) :
  Calls Tryz.prog 42 #[.pointer (some ⟨gd_0, 0, none⟩), str user_1, str id_2] w0 (Ret (fun v w' => v = .int .i64 r ∧ Below w0.heap.size w0 w')) := by
 unfold ref37_Devices_find at hS
 have hb := flat1_fr (ρ := ρA) (w := w0) hbd
 have hz := hz.flat1
 obtain ⟨v1, hB3, h2⟩ := ho0
 replace hB3 := hB3.mv (flat1_mv (hτ0 0))
 replace h2 := h2.mv (flat1_mv (hτ0 1)) (by decide)
 replace hB3 : Blk (flat1 ρA) 1 w0 gd_0 (.cells #[v1, .int .i64 d_0.N] 55 (0, 0)) := hB3
 replace h2 : OwnT ref37_Device.c 70 (flat1 ρA) 1 w0 v1 d_0.L := h2
 refine calls_of_ke Tryz.func42 rfl (n := 40) rfl rfl (l := [(0, .pointer (some ⟨gd_0, 0, none⟩)), (1, str user_1), (2, str id_2)]) rfl ?_
 refine ke_seq ?_
 refine ke_region ?_
 refine sr_ev (v := .int .i64 0) (ev_assign rfl) (by decide) ?_
 refine sr_end (l' := [(0, .pointer (some ⟨gd_0, 0, none⟩)), (1, str user_1), (2, str id_2)]) (.cons rfl (.cons rfl (.cons rfl (.nil _)))) ?_
 refine ke_seq ?_
 refine ke_seq ?_
 refine ke_region ?_
 refine sr_ev (v := .int .i64 0) (ev_assign rfl) (by decide) ?_
 refine sr_end (l' := [(0, .pointer (some ⟨gd_0, 0, none⟩)), (1, str user_1), (2, str id_2), (7, .int .i64 0)]) (.cons rfl (.cons rfl (.cons rfl (.cons rfl (.nil _))))) ?_
 refine ke_block ?_
 have hK := ref37_Devices_find_L1_ok hg hbd hz _ hS hb ⟨_, hB3, h2⟩
 exact ke_weaken (l' := [(0, .pointer (some ⟨gd_0, 0, none⟩)), (1, str user_1), (2, str id_2), (7, .int .i64 0)]) (.cons rfl (.cons rfl (.cons rfl (.cons rfl (.nil _))))) (ke_loop hK)
theorem ref37_Devices_Trust_B2_ok {w0 : World} (hg : Gs w0) {ρA : Tags} (hbd : ∀ b, ρA b ≠ 0 → b < w0.heap.size) {o : Nat} (ho2 : 2 ≤ o) {gd_0 : Nat} (hz : Gz (enter ρA o 2)) {r : Int × ref37_Devices} {ogd_0 : ref37_Devices} (hS : ref37_Devices_Trust_B2 ogd_0 = some r) {ρ : Tags} {w : World} (hb : Fr (enter ρA o 2) w0 ρ w) (hogd_0 : ref37_Devices.O (fun p => 100 + p) ρ w gd_0 ogd_0) :
  KE Tryz.prog 22 (Ret (fun v w' => ∃ ρ', v = .int .i64 r.1 ∧ ref37_Devices.O (fun p => o + p) ρ' w' gd_0 r.2 ∧ Tr ρA w0 (rng o 2) ρ' w')) 101 [.code (sub (bodyOf Tryz.f22) [2, 2, 2, 2, 2, 2, 2, 2, 2])] [] w := by
 unfold ref37_Devices_Trust_B2 at hS
 obtain ⟨v116, hB118, h117⟩ := hogd_0
 replace hB118 : Blk ρ 100 w gd_0 (.cells #[v116, .int .i64 ogd_0.N] 55 (0, 0)) := hB118
 replace h117 : OwnT ref37_Device.c 70 ρ 101 w v116 ogd_0.L := h117
 refine ke_seq ?_
 refine ke_region ?_
 refine sr_ev (v := .int .i64 0) (ev_assign rfl) (by decide) ?_
 refine sr_end (l' := [(12, .int .i64 0)]) (.cons rfl (.nil _)) ?_
 cases hS
 exact ke_ret1 Tryz.func22 rfl rfl ⟨_, rfl, leave ρA w0 o 2 ρ, rfl, ⟨_, (hB118.mv (leave_mv (p := 0) (by decide) hb)), (h117.mv (leave_mv (p := 1) (by decide) hb) (Nat.ne_of_gt (Nat.lt_of_lt_of_le (Nat.lt_of_lt_of_le Nat.zero_lt_two ho2) (Nat.le_add_right _ _))))⟩, (leave_tr ho2 hb)⟩
theorem ref37_Devices_Trust_B1_ok {w0 : World} (hg : Gs w0) {ρA : Tags} (hbd : ∀ b, ρA b ≠ 0 → b < w0.heap.size) {o : Nat} (ho2 : 2 ≤ o) {gd_0 : Nat} (hz : Gz (enter ρA o 2)) {r : Int × ref37_Devices} {od_0 : ref37_Devices} {secret_3 : Str} {k_14 : Int} (hS : ref37_Devices_Trust_B1 od_0 secret_3 k_14 = some r) {ρ : Tags} {w : World} (hb : Fr (enter ρA o 2) w0 ρ w) (hod_0 : ref37_Devices.O (fun p => 100 + p) ρ w gd_0 od_0) :
  KE Tryz.prog 22 (Ret (fun v w' => ∃ ρ', v = .int .i64 r.1 ∧ ref37_Devices.O (fun p => o + p) ρ' w' gd_0 r.2 ∧ Tr ρA w0 (rng o 2) ρ' w')) 101 [.code (sub (bodyOf Tryz.f22) [2, 2, 2, 2, 2, 2, 2, 2])] [(0, .pointer (some ⟨gd_0, 0, none⟩)), (3, str secret_3), (14, .int .i64 k_14)] w := by
 unfold ref37_Devices_Trust_B1 at hS
 obtain ⟨v81, hB83, h82⟩ := hod_0
 replace hB83 : Blk ρ 100 w gd_0 (.cells #[v81, .int .i64 od_0.N] 55 (0, 0)) := hB83
 replace h82 : OwnT ref37_Device.c 70 ρ 101 w v81 od_0.L := h82
 refine ke_seq ?_
 refine ke_seq ?_
 refine ke_region ?_
 refine sr_ev (v := .pointer (some ⟨gd_0, 0, none⟩)) (ev_move rfl) (by decide) ?_
 refine sr_ev (v := .pointer (some ⟨gd_0, 0, none⟩)) (ev_nilCheck rfl) (by decide) ?_
 refine sr_ev (v := .pointer (some ⟨gd_0, 0, none⟩)) (ev_fieldAddr (i := 0) Tryz.underlying55 rfl Tryz.info53 rfl rfl) (by decide) ?_
 refine sr_ev (v := v81) (ev_load Tryz.isAgg53 rfl (hB83.cell rfl)) (by decide) ?_
 refine sr_ev (v := .int .i64 k_14) (ev_move rfl) (by decide) ?_
 obtain ⟨y84, hy85, hS⟩ := bind_some' hS
 obtain ⟨b86, o87, cs89, hq90, he88, hg91, ho92⟩ := h82.elemQ (P := Tryz.prog) Tryz.underlying53 Tryz.info70 rfl hy85
 obtain rfl : cs89 = [str y84.User, str y84.ID, str y84.Secret, str y84.Challenge, .int .i64 y84.Until] := he88.rd
 refine sr_ev (v := .pointer (some ⟨b86, o87, none⟩)) (hq90 w rfl rfl) (by decide) ?_
 refine sr_ev (v := .pointer (some ⟨b86, o87 + 2, none⟩)) (ev_fieldAddr (i := 2) Tryz.underlying70 rfl Tryz.info9 rfl rfl) (by decide) ?_
 refine sr_ev (v := str y84.Secret) (ev_load Tryz.isAgg9 rfl (he88.cell 2 _ rfl)) (by decide) ?_
 refine sr_ev (v := str secret_3) (ev_move rfl) (by decide) ?_
 refine sr_ev (v := .bool (!(y84.Secret == secret_3))) (ev_sne rfl rfl) (by decide) ?_
 refine sr_end (l' := [(0, .pointer (some ⟨gd_0, 0, none⟩)), (3, str secret_3), (14, .int .i64 k_14), (85, .bool (!(y84.Secret == secret_3)))]) (.cons rfl (.cons rfl (.cons rfl (.cons rfl (.nil _))))) ?_
 refine ke_cond (t := !(y84.Secret == secret_3)) rfl (fun hc93 => ?_) (fun hc93 => ?_)
 ·replace hS := ite_true' hS hc93
  refine ke_seq ?_
  refine ke_region ?_
  refine sr_ev (v := .pointer (some ⟨gd_0, 0, none⟩)) (ev_move rfl) (by decide) ?_
  refine sr_ev (v := .pointer (some ⟨gd_0, 0, none⟩)) (ev_nilCheck rfl) (by decide) ?_
  refine sr_ev (v := .pointer (some ⟨gd_0, 0, none⟩)) (ev_fieldAddr (i := 0) Tryz.underlying55 rfl Tryz.info53 rfl rfl) (by decide) ?_
  refine sr_ev (v := v81) (ev_load Tryz.isAgg53 rfl (hB83.cell rfl)) (by decide) ?_
  refine sr_ev (v := .int .i64 k_14) (ev_move rfl) (by decide) ?_
  refine sr_ev (v := str secret_3) (ev_move rfl) (by decide) ?_
  obtain ⟨y94, hy95, hS⟩ := bind_some' hS
  obtain ⟨b96, o97, cs99, hq100, he98, hg101, ho102⟩ := h82.elemQ (P := Tryz.prog) Tryz.underlying53 Tryz.info70 rfl hy95
  obtain rfl : cs99 = [str y94.User, str y94.ID, str y94.Secret, str y94.Challenge, .int .i64 y94.Until] := he98.rd
  refine sr_ev (v := .pointer (some ⟨b96, o97, none⟩)) (hq100 w rfl rfl) (by decide) ?_
  refine sr_ev (v := .pointer (some ⟨b96, o97 + 2, none⟩)) (ev_fieldAddr (i := 2) Tryz.underlying70 rfl Tryz.info9 rfl rfl) (by decide) ?_
  refine sr_storeEl (z' := (ref37_Device.mk y94.User y94.ID secret_3 y94.Challenge y94.Until)) (u := str secret_3) (vs := [str secret_3]) (cs' := [str y94.User, str y94.ID, str secret_3, str y94.Challenge, .int .i64 y94.Until]) (off := 2) h82 hg101 ho102 hy95 he98 (by decide) hb.bd rfl rfl rfl Tryz.sizeOf9 rfl rfl rfl rfl ?_
  intro w103 h821 htr104
  replace hB83 := hB83.mv (htr104.mv (i := 100) rfl)
  replace hb := hb.trans htr104
  replace h82 := h821
  clear h821
  refine sr_end (l' := [(0, .pointer (some ⟨gd_0, 0, none⟩)), (14, .int .i64 k_14)]) (.cons rfl (.cons rfl (.nil _))) ?_
  refine ke_region ?_
  refine sr_ev (v := .pointer (some ⟨gd_0, 0, none⟩)) (ev_move rfl) (by decide) ?_
  refine sr_ev (v := .pointer (some ⟨gd_0, 0, none⟩)) (ev_nilCheck rfl) (by decide) ?_
  refine sr_ev (v := .pointer (some ⟨gd_0, 0, none⟩)) (ev_fieldAddr (i := 0) Tryz.underlying55 rfl Tryz.info53 rfl rfl) (by decide) ?_
  refine sr_ev (v := v81) (ev_load Tryz.isAgg53 rfl (hB83.cell rfl)) (by decide) ?_
  refine sr_ev (v := .int .i64 k_14) (ev_move rfl) (by decide) ?_
  obtain ⟨y105, hy106, hS⟩ := bind_some' hS
  obtain ⟨b107, o108, cs110, hq111, he109, hg112, ho113⟩ := h82.elemQ (P := Tryz.prog) Tryz.underlying53 Tryz.info70 rfl hy106
  obtain rfl : cs110 = [str y105.User, str y105.ID, str y105.Secret, str y105.Challenge, .int .i64 y105.Until] := he109.rd
  refine sr_ev (v := .pointer (some ⟨b107, o108, none⟩)) (hq111 w103 rfl rfl) (by decide) ?_
  refine sr_ev (v := .pointer (some ⟨b107, o108 + 3, none⟩)) (ev_fieldAddr (i := 3) Tryz.underlying70 rfl Tryz.info9 rfl rfl) (by decide) ?_
  refine sr_storeEl (z' := (ref37_Device.mk y105.User y105.ID y105.Secret ([]) y105.Until)) (u := str ([])) (vs := [str ([])]) (cs' := [str y105.User, str y105.ID, str y105.Secret, str ([]), .int .i64 y105.Until]) (off := 3) h82 hg112 ho113 hy106 he109 (by decide) hb.bd rfl rfl rfl Tryz.sizeOf9 rfl rfl rfl rfl ?_
  intro w114 h821 htr115
  replace hB83 := hB83.mv (htr115.mv (i := 100) rfl)
  replace hb := hb.trans htr115
  replace h82 := h821
  clear h821
  refine sr_end (l' := []) (.nil _) ?_
  have hK := ref37_Devices_Trust_B2_ok hg hbd ho2 hz hS hb ⟨_, hB83, h82⟩
  exact ke_weaken (l' := []) (.nil _) hK
 ·replace hS := ite_false' hS hc93
  refine ke_skip ?_
  have hK := ref37_Devices_Trust_B2_ok hg hbd ho2 hz hS hb ⟨_, hB83, h82⟩
  exact ke_weaken (l' := []) (.nil _) hK
theorem ref37_Devices_Trust_ok (w0 : World) (hg : Gs w0) {ρA : Tags} (hbd : ∀ b, ρA b ≠ 0 → b < w0.heap.size) (hz : Gz ρA) {o : Nat} (ho2 : 2 ≤ o) {d_0 : ref37_Devices} {user_1 : Str} {id_2 : Str} {secret_3 : Str} {until_4 : Int} {now_5 : Int} {gd_0 : Nat} {r : Int × ref37_Devices} (ho0 : ref37_Devices.O (fun p => o + p) ρA w0 gd_0 d_0) (hS : ref37_Devices_Trust d_0 user_1 id_2 secret_3 until_4 now_5 = some r) :
  Calls Tryz.prog 22 #[.pointer (some ⟨gd_0, 0, none⟩), str user_1, str id_2, str secret_3, .int .i64 until_4, .int .i64 now_5] w0 (Ret (fun v w' => ∃ ρ', v = .int .i64 r.1 ∧ ref37_Devices.O (fun p => o + p) ρ' w' gd_0 r.2 ∧ Tr ρA w0 (rng o 2) ρ' w')) := by
 unfold ref37_Devices_Trust at hS
 have hb := enter_fr (ρ := ρA) (w := w0) (n := 2) ho2 hbd
 have hz := hz.enter (n := 2) ho2
 obtain ⟨v1, hB3, h2⟩ := ho0
 replace hB3 := hB3.mv (enter_mv (p := 0) (n := 2) (by decide) ho2)
 replace h2 := h2.mv (enter_mv (p := 1) (n := 2) (by decide) ho2) (by decide)
 replace hB3 : Blk (enter ρA o 2) 100 w0 gd_0 (.cells #[v1, .int .i64 d_0.N] 55 (0, 0)) := hB3
 replace h2 : OwnT ref37_Device.c 70 (enter ρA o 2) 101 w0 v1 d_0.L := h2
 refine calls_of_ke Tryz.func22 rfl (n := 101) rfl rfl (l := [(0, .pointer (some ⟨gd_0, 0, none⟩)), (1, str user_1), (2, str id_2), (3, str secret_3), (4, .int .i64 until_4), (5, .int .i64 now_5)]) rfl ?_
 refine ke_seq ?_
 refine ke_region ?_
 refine sr_ev (v := .int .i64 0) (ev_assign rfl) (by decide) ?_
 refine sr_end (l' := [(0, .pointer (some ⟨gd_0, 0, none⟩)), (1, str user_1), (2, str id_2), (3, str secret_3), (4, .int .i64 until_4), (5, .int .i64 now_5)]) (.cons rfl (.cons rfl (.cons rfl (.cons rfl (.cons rfl (.cons rfl (.nil _))))))) ?_
 refine ke_seq ?_
 refine ke_seq ?_
 refine ke_region ?_
 refine sr_ev (v := str user_1) (ev_move rfl) (by decide) ?_
 obtain ⟨y4, hy5, hS⟩ := bind_some' hS
 refine sr_call (vs := [str user_1]) rfl Tryz.call39 rfl (ref01_Word_ok _ (hg.fr hz hb) hy5) (by decide) ?_
 rintro _ w6 ⟨rfl, hbw7⟩
 have htr8 := Tr.of_below hbw7 hb.bd
 replace hB3 := hB3.mv (htr8.mv (i := 100) rfl)
 replace h2 := h2.mv (htr8.mv (i := 101) rfl) (by decide)
 replace hb := hb.trans htr8
 refine sr_ev (v := .bool (!y4)) (ev_not rfl) (by decide) ?_
 refine sr_ev (v := .bool (!y4)) (ev_move rfl) (by decide) ?_
 obtain ⟨z11, hz13, hS⟩ := bind_some' hS
 refine sr_join (m := 4) (C := fun (z : Bool) w1 => z11 = z ∧ ∃ ρ1, Tr (enter ρA o 2) w6 (fun _ => false) ρ1 w1) (l' := fun z => [(0, .pointer (some ⟨gd_0, 0, none⟩)), (1, str user_1), (2, str id_2), (3, str secret_3), (4, .int .i64 until_4), (5, .int .i64 now_5), (22, .bool z)]) ?_ ?_
 ·rintro _ w14 ⟨rfl, ρ15, hj12⟩
  replace hB3 := hB3.mv (hj12.mv (i := 100) rfl)
  replace h2 := h2.mv (hj12.mv (i := 101) rfl) (by decide)
  replace hb := hb.trans hj12
  refine sr_end (l' := [(0, .pointer (some ⟨gd_0, 0, none⟩)), (1, str user_1), (2, str id_2), (3, str secret_3), (4, .int .i64 until_4), (5, .int .i64 now_5), (22, .bool z11)]) (.cons rfl (.cons rfl (.cons rfl (.cons rfl (.cons rfl (.cons rfl (.cons rfl (.nil _)))))))) ?_
  refine ke_cond (t := z11) rfl (fun hc22 => ?_) (fun hc22 => ?_)
  ·replace hS := ite_true' hS hc22
   refine ke_seq ?_
   refine ke_region ?_
   refine sr_ev (v := .int .i64 5) (ev_assign rfl) (by decide) ?_
   refine sr_end (l' := [(12, .int .i64 5)]) (.cons rfl (.nil _)) ?_
   cases hS
   exact ke_ret1 Tryz.func22 rfl rfl ⟨_, rfl, leave ρA w0 o 2 ρ15, rfl, ⟨_, (hB3.mv (leave_mv (p := 0) (by decide) hb)), (h2.mv (leave_mv (p := 1) (by decide) hb) (Nat.ne_of_gt (Nat.lt_of_lt_of_le (Nat.lt_of_lt_of_le Nat.zero_lt_two ho2) (Nat.le_add_right _ _))))⟩, (leave_tr ho2 hb)⟩
  ·replace hS := ite_false' hS hc22
   refine ke_skip ?_
   refine ke_seq ?_
   refine ke_seq ?_
   refine ke_region ?_
   refine sr_ev (v := str secret_3) (ev_move rfl) (by decide) ?_
   obtain ⟨y23, hy24, hS⟩ := bind_some' hS
   refine sr_call (vs := [str secret_3]) rfl Tryz.call40 rfl (ref01_Clean_ok _ (hg.fr hz hb) hy24) (by decide) ?_
   rintro _ w25 ⟨rfl, hbw26⟩
   have htr27 := Tr.of_below hbw26 hb.bd
   replace hB3 := hB3.mv (htr27.mv (i := 100) rfl)
   replace h2 := h2.mv (htr27.mv (i := 101) rfl) (by decide)
   replace hb := hb.trans htr27
   refine sr_ev (v := .bool (!y23)) (ev_not rfl) (by decide) ?_
   refine sr_end (l' := [(0, .pointer (some ⟨gd_0, 0, none⟩)), (1, str user_1), (2, str id_2), (3, str secret_3), (4, .int .i64 until_4), (5, .int .i64 now_5), (25, .bool (!y23))]) (.cons rfl (.cons rfl (.cons rfl (.cons rfl (.cons rfl (.cons rfl (.cons rfl (.nil _)))))))) ?_
   refine ke_cond (t := !y23) rfl (fun hc28 => ?_) (fun hc28 => ?_)
   ·replace hS := ite_true' hS hc28
    refine ke_seq ?_
    refine ke_region ?_
    refine sr_ev (v := .int .i64 4) (ev_assign rfl) (by decide) ?_
    refine sr_end (l' := [(12, .int .i64 4)]) (.cons rfl (.nil _)) ?_
    cases hS
    exact ke_ret1 Tryz.func22 rfl rfl ⟨_, rfl, leave ρA w0 o 2 ρ15, rfl, ⟨_, (hB3.mv (leave_mv (p := 0) (by decide) hb)), (h2.mv (leave_mv (p := 1) (by decide) hb) (Nat.ne_of_gt (Nat.lt_of_lt_of_le (Nat.lt_of_lt_of_le Nat.zero_lt_two ho2) (Nat.le_add_right _ _))))⟩, (leave_tr ho2 hb)⟩
   ·replace hS := ite_false' hS hc28
    refine ke_skip ?_
    refine ke_seq ?_
    refine ke_region ?_
    refine sr_ev (v := .int .i64 until_4) (ev_move rfl) (by decide) ?_
    obtain ⟨y29, hy30, hS⟩ := bind_some' hS
    refine sr_call (vs := [.int .i64 until_4]) rfl Tryz.call41 rfl (ref15_Instant_ok _ (hg.fr hz hb) hy30) (by decide) ?_
    rintro _ w31 ⟨rfl, hbw32⟩
    have htr33 := Tr.of_below hbw32 hb.bd
    replace hB3 := hB3.mv (htr33.mv (i := 100) rfl)
    replace h2 := h2.mv (htr33.mv (i := 101) rfl) (by decide)
    replace hb := hb.trans htr33
    refine sr_ev (v := .int .i64 y29) (ev_assign rfl) (by decide) ?_
    refine sr_end (l' := [(0, .pointer (some ⟨gd_0, 0, none⟩)), (1, str user_1), (2, str id_2), (3, str secret_3), (5, .int .i64 now_5), (13, .int .i64 y29)]) (.cons rfl (.cons rfl (.cons rfl (.cons rfl (.cons rfl (.cons rfl (.nil _))))))) ?_
    refine ke_seq ?_
    refine ke_seq ?_
    refine ke_region ?_
    refine sr_ev (v := .int .i64 y29) (ev_move rfl) (by decide) ?_
    refine sr_ev (v := .int .i64 now_5) (ev_move rfl) (by decide) ?_
    obtain ⟨y34, hy35, hS⟩ := bind_some' hS
    refine sr_call (vs := [.int .i64 now_5]) rfl Tryz.call41 rfl (ref15_Instant_ok _ (hg.fr hz hb) hy35) (by decide) ?_
    rintro _ w36 ⟨rfl, hbw37⟩
    have htr38 := Tr.of_below hbw37 hb.bd
    replace hB3 := hB3.mv (htr38.mv (i := 100) rfl)
    replace h2 := h2.mv (htr38.mv (i := 101) rfl) (by decide)
    replace hb := hb.trans htr38
    refine sr_ev (v := .bool (decide (y29 ≤ y34))) (ev_le rfl rfl) (by decide) ?_
    refine sr_end (l' := [(0, .pointer (some ⟨gd_0, 0, none⟩)), (1, str user_1), (2, str id_2), (3, str secret_3), (13, .int .i64 y29), (31, .bool (decide (y29 ≤ y34)))]) (.cons rfl (.cons rfl (.cons rfl (.cons rfl (.cons rfl (.cons rfl (.nil _))))))) ?_
    refine ke_cond (t := decide (y29 ≤ y34)) rfl (fun hc39 => ?_) (fun hc39 => ?_)
    ·replace hS := ite_true' hS hc39
     refine ke_seq ?_
     refine ke_region ?_
     refine sr_ev (v := .int .i64 13) (ev_assign rfl) (by decide) ?_
     refine sr_end (l' := [(12, .int .i64 13)]) (.cons rfl (.nil _)) ?_
     cases hS
     exact ke_ret1 Tryz.func22 rfl rfl ⟨_, rfl, leave ρA w0 o 2 ρ15, rfl, ⟨_, (hB3.mv (leave_mv (p := 0) (by decide) hb)), (h2.mv (leave_mv (p := 1) (by decide) hb) (Nat.ne_of_gt (Nat.lt_of_lt_of_le (Nat.lt_of_lt_of_le Nat.zero_lt_two ho2) (Nat.le_add_right _ _))))⟩, (leave_tr ho2 hb)⟩
    ·replace hS := ite_false' hS hc39
     refine ke_skip ?_
     refine ke_seq ?_
     refine ke_region ?_
     refine sr_ev (v := .pointer (some ⟨gd_0, 0, none⟩)) (ev_move rfl) (by decide) ?_
     refine sr_ev (v := str user_1) (ev_move rfl) (by decide) ?_
     refine sr_ev (v := str id_2) (ev_move rfl) (by decide) ?_
     obtain ⟨y40, hy41, hS⟩ := bind_some' hS
     refine sr_call (vs := [.pointer (some ⟨gd_0, 0, none⟩), str user_1, str id_2]) rfl Tryz.call42 rfl (ref37_Devices_find_ok _ (hg.fr hz hb) (ρA := ρ15) hb.bd (hz.fr hg hb) (τ0 := (fun p => 100 + p)) (fun p => Nat.le_add_right_of_le (by decide)) (⟨_, hB3, h2⟩ : ref37_Devices.O (fun p => 100 + p) ρ15 w36 gd_0 d_0) hy41) (by decide) ?_
     rintro _ w42 ⟨rfl, hbw43⟩
     have htr44 := Tr.of_below hbw43 hb.bd
     replace hB3 := hB3.mv (htr44.mv (i := 100) rfl)
     replace h2 := h2.mv (htr44.mv (i := 101) rfl) (by decide)
     replace hb := hb.trans htr44
     refine sr_ev (v := .int .i64 y40) (ev_assign rfl) (by decide) ?_
     refine sr_end (l' := [(0, .pointer (some ⟨gd_0, 0, none⟩)), (1, str user_1), (2, str id_2), (3, str secret_3), (13, .int .i64 y29), (14, .int .i64 y40)]) (.cons rfl (.cons rfl (.cons rfl (.cons rfl (.cons rfl (.cons rfl (.nil _))))))) ?_
     refine ke_seq ?_
     refine ke_seq ?_
     refine ke_region ?_
     refine sr_ev (v := .int .i64 y40) (ev_move rfl) (by decide) ?_
     refine sr_ev (v := .bool (decide (y40 < 0))) (ev_lt rfl rfl) (by decide) ?_
     refine sr_end (l' := [(0, .pointer (some ⟨gd_0, 0, none⟩)), (1, str user_1), (2, str id_2), (3, str secret_3), (13, .int .i64 y29), (14, .int .i64 y40), (37, .bool (decide (y40 < 0)))]) (.cons rfl (.cons rfl (.cons rfl (.cons rfl (.cons rfl (.cons rfl (.cons rfl (.nil _)))))))) ?_
     refine ke_cond (t := decide (y40 < 0)) rfl (fun hc45 => ?_) (fun hc45 => ?_)
     ·replace hS := ite_true' hS hc45
      refine ke_seq ?_
      refine ke_seq ?_
      refine ke_region ?_
      refine sr_ev (v := .pointer (some ⟨gd_0, 0, none⟩)) (ev_move rfl) (by decide) ?_
      refine sr_ev (v := .pointer (some ⟨gd_0, 0, none⟩)) (ev_nilCheck rfl) (by decide) ?_
      refine sr_ev (v := .pointer (some ⟨gd_0, 0, none⟩)) (ev_fieldAddr (i := 0) Tryz.underlying55 rfl Tryz.info53 rfl rfl) (by decide) ?_
      refine sr_ev (v := v1) (ev_load Tryz.isAgg53 rfl (hB3.cell rfl)) (by decide) ?_
      refine sr_ev (v := .int .i64 (d_0.L.length : Int)) (ev_sllen Tryz.underlying53 rfl h2.asSl) (by decide) ?_
      refine sr_ev (v := .bool (decide ((d_0.L.length : Int) ≥ 256))) (ev_ge rfl rfl) (by decide) ?_
      refine sr_end (l' := [(0, .pointer (some ⟨gd_0, 0, none⟩)), (1, str user_1), (2, str id_2), (3, str secret_3), (13, .int .i64 y29), (43, .bool (decide ((d_0.L.length : Int) ≥ 256)))]) (.cons rfl (.cons rfl (.cons rfl (.cons rfl (.cons rfl (.cons rfl (.nil _))))))) ?_
      refine ke_cond (t := decide ((d_0.L.length : Int) ≥ 256)) rfl (fun hc46 => ?_) (fun hc46 => ?_)
      ·replace hS := ite_true' hS hc46
       refine ke_seq ?_
       refine ke_region ?_
       refine sr_ev (v := .int .i64 3) (ev_assign rfl) (by decide) ?_
       refine sr_end (l' := [(12, .int .i64 3)]) (.cons rfl (.nil _)) ?_
       cases hS
       exact ke_ret1 Tryz.func22 rfl rfl ⟨_, rfl, leave ρA w0 o 2 ρ15, rfl, ⟨_, (hB3.mv (leave_mv (p := 0) (by decide) hb)), (h2.mv (leave_mv (p := 1) (by decide) hb) (Nat.ne_of_gt (Nat.lt_of_lt_of_le (Nat.lt_of_lt_of_le Nat.zero_lt_two ho2) (Nat.le_add_right _ _))))⟩, (leave_tr ho2 hb)⟩
      ·replace hS := ite_false' hS hc46
       refine ke_skip ?_
       refine ke_seq ?_
       refine ke_region ?_
       refine sr_ev (v := .pointer (some ⟨gd_0, 0, none⟩)) (ev_move rfl) (by decide) ?_
       refine sr_ev (v := .pointer (some ⟨gd_0, 0, none⟩)) (ev_move rfl) (by decide) ?_
       refine sr_ev (v := .pointer (some ⟨gd_0, 0, none⟩)) (ev_nilCheck rfl) (by decide) ?_
       refine sr_ev (v := .pointer (some ⟨gd_0, 0, none⟩)) (ev_fieldAddr (i := 0) Tryz.underlying55 rfl Tryz.info53 rfl rfl) (by decide) ?_
       refine sr_ev (v := v1) (ev_load Tryz.isAgg53 rfl (hB3.cell rfl)) (by decide) ?_
       refine sr_ev (v := str user_1) (ev_move rfl) (by decide) ?_
       refine sr_ev (v := str id_2) (ev_move rfl) (by decide) ?_
       refine sr_ev (v := str secret_3) (ev_move rfl) (by decide) ?_
       refine sr_ev (v := .int .i64 y29) (ev_move rfl) (by decide) ?_
       refine sr_ev (v := .agg #[str user_1, str id_2, str secret_3, str ([]), .int .i64 y29]) (ev_build (vs := #[(0, str user_1), (1, str id_2), (2, str secret_3), (4, .int .i64 y29)]) rfl (fun _ => by kernel_rfl)) (by decide) ?_
       refine sr_litT (c := ref37_Device.c) (ρ := ρ15) (E := 70) (xs := [(ref37_Device.mk user_1 id_2 secret_3 ([]) y29)]) (vs := #[(0, .agg #[str user_1, str id_2, str secret_3, str ([]), .int .i64 y29])]) (cs := #[str user_1, str id_2, str secret_3, str ([]), .int .i64 y29]) (css := [[str user_1, str id_2, str secret_3, str ([]), .int .i64 y29]]) rfl (fun _ => by kernel_rfl) rfl ⟨rfl, trivial⟩ rfl (by decide) hb.bd (by decide) ?_
       intro v47 w49 h48 hbw51
       have htr50 := Tr.of_below hbw51 hb.bd
       replace h2 := h2.mv (htr50.mv (i := 101) rfl) (by decide)
       replace hB3 := hB3.mv (htr50.mv (i := 100) rfl)
       replace hb := hb.trans htr50
       obtain ⟨hk52, hS⟩ := chk_some hS
       refine sr_appendT (i := 101) (c := ref37_Device.c) (ρ := ρ15) (E := 70) (xs := d_0.L) (ys := ([(ref37_Device.mk user_1 id_2 secret_3 ([]) y29)] : List ref37_Device)) h2 ((SlT.of_sl (i := 0) h48)).x Tryz.underlying53 Tryz.info70 rfl rfl rfl (by decide) (by decide) (by decide) hb.bd hk52 rfl rfl (by decide) ?_
       intro v53 ρ55 w56 h54 htr57
       replace hB3 := hB3.mv (htr57.mv (i := 100) rfl)
       replace hb := hb.trans htr57
       refine sr_ev (v := .pointer (some ⟨gd_0, 0, none⟩)) (ev_nilCheck rfl) (by decide) ?_
       refine sr_ev (v := .pointer (some ⟨gd_0, 0, none⟩)) (ev_fieldAddr (i := 0) Tryz.underlying55 rfl Tryz.info53 rfl rfl) (by decide) ?_
       refine sr_storeT (v := v53) (vs := [v53]) (cs' := #[v53, .int .i64 d_0.N]) hB3 (by decide) hb.bd rfl rfl (one_cells (OwnT.oneCell h54)) Tryz.sizeOf53 rfl (by first | rfl | (simp only [List.all_cons, List.all_nil, OwnT.oneCell h54]; done) | (simp only [List.all_cons, List.all_nil, OwnT.oneCell h54]; rfl)) rfl ?_
       intro w58 hB31 htr59
       replace h54 := h54.mv (htr59.mv (i := 101) rfl) (by decide)
       replace hb := hb.trans htr59
       replace hB3 : Blk ρ55 100 w58 gd_0 (.cells #[v53, .int .i64 d_0.N] 55 (0, 0)) := hB31
       clear hB31
       refine sr_end (l' := []) (.nil _) ?_
       refine ke_seq ?_
       refine ke_region ?_
       refine sr_ev (v := .int .i64 0) (ev_assign rfl) (by decide) ?_
       refine sr_end (l' := [(12, .int .i64 0)]) (.cons rfl (.nil _)) ?_
       cases hS
       exact ke_ret1 Tryz.func22 rfl rfl ⟨_, rfl, leave ρA w0 o 2 ρ55, rfl, ⟨_, (hB3.mv (leave_mv (p := 0) (by decide) hb)), (h54.mv (leave_mv (p := 1) (by decide) hb) (Nat.ne_of_gt (Nat.lt_of_lt_of_le (Nat.lt_of_lt_of_le Nat.zero_lt_two ho2) (Nat.le_add_right _ _))))⟩, (leave_tr ho2 hb)⟩
     ·replace hS := ite_false' hS hc45
      refine ke_skip ?_
      refine ke_seq ?_
      refine ke_seq ?_
      refine ke_region ?_
      refine sr_ev (v := .pointer (some ⟨gd_0, 0, none⟩)) (ev_move rfl) (by decide) ?_
      refine sr_ev (v := .pointer (some ⟨gd_0, 0, none⟩)) (ev_nilCheck rfl) (by decide) ?_
      refine sr_ev (v := .pointer (some ⟨gd_0, 0, none⟩)) (ev_fieldAddr (i := 0) Tryz.underlying55 rfl Tryz.info53 rfl rfl) (by decide) ?_
      refine sr_ev (v := v1) (ev_load Tryz.isAgg53 rfl (hB3.cell rfl)) (by decide) ?_
      refine sr_ev (v := .int .i64 y40) (ev_move rfl) (by decide) ?_
      obtain ⟨y60, hy61, hS⟩ := bind_some' hS
      obtain ⟨b62, o63, cs65, hq66, he64, hg67, ho68⟩ := h2.elemQ (P := Tryz.prog) Tryz.underlying53 Tryz.info70 rfl hy61
      obtain rfl : cs65 = [str y60.User, str y60.ID, str y60.Secret, str y60.Challenge, .int .i64 y60.Until] := he64.rd
      refine sr_ev (v := .pointer (some ⟨b62, o63, none⟩)) (hq66 w42 rfl rfl) (by decide) ?_
      refine sr_ev (v := .pointer (some ⟨b62, o63 + 4, none⟩)) (ev_fieldAddr (i := 4) Tryz.underlying70 rfl Tryz.info3 rfl rfl) (by decide) ?_
      refine sr_ev (v := .int .i64 y60.Until) (ev_load Tryz.isAgg3 rfl (he64.cell 4 _ rfl)) (by decide) ?_
      refine sr_ev (v := .int .i64 y29) (ev_move rfl) (by decide) ?_
      refine sr_ev (v := .bool (decide (y60.Until < y29))) (ev_lt rfl rfl) (by decide) ?_
      refine sr_end (l' := [(0, .pointer (some ⟨gd_0, 0, none⟩)), (3, str secret_3), (13, .int .i64 y29), (14, .int .i64 y40), (67, .bool (decide (y60.Until < y29)))]) (.cons rfl (.cons rfl (.cons rfl (.cons rfl (.cons rfl (.nil _)))))) ?_
      refine ke_cond (t := decide (y60.Until < y29)) rfl (fun hc69 => ?_) (fun hc69 => ?_)
      ·replace hS := ite_true' hS hc69
       refine ke_region ?_
       refine sr_ev (v := .pointer (some ⟨gd_0, 0, none⟩)) (ev_move rfl) (by decide) ?_
       refine sr_ev (v := .pointer (some ⟨gd_0, 0, none⟩)) (ev_nilCheck rfl) (by decide) ?_
       refine sr_ev (v := .pointer (some ⟨gd_0, 0, none⟩)) (ev_fieldAddr (i := 0) Tryz.underlying55 rfl Tryz.info53 rfl rfl) (by decide) ?_
       refine sr_ev (v := v1) (ev_load Tryz.isAgg53 rfl (hB3.cell rfl)) (by decide) ?_
       refine sr_ev (v := .int .i64 y40) (ev_move rfl) (by decide) ?_
       refine sr_ev (v := .int .i64 y29) (ev_move rfl) (by decide) ?_
       obtain ⟨y70, hy71, hS⟩ := bind_some' hS
       obtain ⟨b72, o73, cs75, hq76, he74, hg77, ho78⟩ := h2.elemQ (P := Tryz.prog) Tryz.underlying53 Tryz.info70 rfl hy71
       obtain rfl : cs75 = [str y70.User, str y70.ID, str y70.Secret, str y70.Challenge, .int .i64 y70.Until] := he74.rd
       refine sr_ev (v := .pointer (some ⟨b72, o73, none⟩)) (hq76 w42 rfl rfl) (by decide) ?_
       refine sr_ev (v := .pointer (some ⟨b72, o73 + 4, none⟩)) (ev_fieldAddr (i := 4) Tryz.underlying70 rfl Tryz.info3 rfl rfl) (by decide) ?_
       refine sr_storeEl (z' := (ref37_Device.mk y70.User y70.ID y70.Secret y70.Challenge y29)) (u := .int .i64 y29) (vs := [.int .i64 y29]) (cs' := [str y70.User, str y70.ID, str y70.Secret, str y70.Challenge, .int .i64 y29]) (off := 4) h2 hg77 ho78 hy71 he74 (by decide) hb.bd rfl rfl rfl Tryz.sizeOf3 rfl rfl rfl rfl ?_
       intro w79 h21 htr80
       replace hB3 := hB3.mv (htr80.mv (i := 100) rfl)
       replace hb := hb.trans htr80
       replace h2 := h21
       clear h21
       refine sr_end (l' := [(0, .pointer (some ⟨gd_0, 0, none⟩)), (3, str secret_3), (14, .int .i64 y40)]) (.cons rfl (.cons rfl (.cons rfl (.nil _)))) ?_
       have hK := ref37_Devices_Trust_B1_ok hg hbd ho2 hz hS hb ⟨_, hB3, h2⟩
       exact ke_weaken (l' := [(0, .pointer (some ⟨gd_0, 0, none⟩)), (3, str secret_3), (14, .int .i64 y40)]) (.cons rfl (.cons rfl (.cons rfl (.nil _)))) hK
      ·replace hS := ite_false' hS hc69
       refine ke_skip ?_
       have hK := ref37_Devices_Trust_B1_ok hg hbd ho2 hz hS hb ⟨_, hB3, h2⟩
       exact ke_weaken (l' := [(0, .pointer (some ⟨gd_0, 0, none⟩)), (3, str secret_3), (14, .int .i64 y40)]) (.cons rfl (.cons rfl (.cons rfl (.nil _)))) hK
 ·intro K10
  clear hS
  have hj12 : Tr (enter ρA o 2) w6 (fun _ => false) (enter ρA o 2) w6 := (Tr.refl hb.bd).weak (fun _ _ => rfl) rfl rfl
  rcases Bool.eq_false_or_eq_true (!y4) with hg9 | hg9
  ·have hS := ite_true' hz13 hg9
   refine sr_pass (e := 18) rfl rfl (by rw [hg9]; rfl) (by decide) ?_
   refine sr_pass (e := 18) rfl rfl (by rw [hg9]; rfl) (by decide) ?_
   refine sr_pass (e := 18) rfl rfl (by rw [hg9]; rfl) (by decide) ?_
   refine sr_ev (v := .bool true) (ev_pick_t rfl hg9 rfl) (by decide) ?_
   exact sr_weaken (l' := [(0, .pointer (some ⟨gd_0, 0, none⟩)), (1, str user_1), (2, str id_2), (3, str secret_3), (4, .int .i64 until_4), (5, .int .i64 now_5), (22, .bool true)]) (.cons rfl (.cons rfl (.cons rfl (.cons rfl (.cons rfl (.cons rfl (.cons rfl (.nil _)))))))) (K10 true _ ⟨(Option.some.inj hS).symm, _, hj12⟩)
  ·have hS := ite_false' hz13 hg9
   refine sr_evg (b := false) (e := 18) rfl rfl hg9 (v := str id_2) (ev_move rfl) (by decide) ?_
   obtain ⟨y17, hy18, hS⟩ := bind_some' hS
   refine sr_callg (b := false) (e := 18) rfl rfl hg9 (vs := [str id_2]) rfl Tryz.call39 rfl (ref01_Word_ok _ (hg.fr hz hb) hy18) (by decide) ?_
   rintro _ w19 ⟨rfl, hbw20⟩
   have htr21 := Tr.of_below hbw20 hb.bd
   replace hB3 := hB3.mv (htr21.mv (i := 100) rfl)
   replace h2 := h2.mv (htr21.mv (i := 101) rfl) (by decide)
   replace hb := hb.trans htr21
   replace hj12 := (hj12.trans htr21).weak (J' := (fun _ => false)) (by intro t h; simp [rng] at h ⊢ <;> omega) rfl rfl
   refine sr_evg (b := false) (e := 18) rfl rfl hg9 (v := .bool (!y17)) (ev_not rfl) (by decide) ?_
   refine sr_ev (v := .bool (!y17)) (ev_pick_f rfl hg9 rfl) (by decide) ?_
   exact sr_weaken (l' := [(0, .pointer (some ⟨gd_0, 0, none⟩)), (1, str user_1), (2, str id_2), (3, str secret_3), (4, .int .i64 until_4), (5, .int .i64 now_5), (22, .bool (!y17))]) (.cons rfl (.cons rfl (.cons rfl (.cons rfl (.cons rfl (.cons rfl (.cons rfl (.nil _)))))))) (K10 (!y17) _ ⟨(Option.some.inj hS).symm, _, hj12⟩)
theorem ref37_Devices_Trusted_ok (w0 : World) (hg : Gs w0) {ρA : Tags} (hbd : ∀ b, ρA b ≠ 0 → b < w0.heap.size) (hz : Gz ρA) {τ0 : Nat → Nat} (hτ0 : ∀ p, 1 ≤ τ0 p) {d_0 : ref37_Devices} {user_1 : Str} {id_2 : Str} {now_3 : Int} {gd_0 : Nat} {r : Bool} (ho0 : ref37_Devices.O τ0 ρA w0 gd_0 d_0) (hS : ref37_Devices_Trusted d_0 user_1 id_2 now_3 = some r) :
  Calls Tryz.prog 29 #[.pointer (some ⟨gd_0, 0, none⟩), str user_1, str id_2, .int .i64 now_3] w0 (Ret (fun v w' => v = .bool r ∧ Below w0.heap.size w0 w')) := by
 unfold ref37_Devices_Trusted at hS
 have hb := flat1_fr (ρ := ρA) (w := w0) hbd
 have hz := hz.flat1
 obtain ⟨v1, hB3, h2⟩ := ho0
 replace hB3 := hB3.mv (flat1_mv (hτ0 0))
 replace h2 := h2.mv (flat1_mv (hτ0 1)) (by decide)
 replace hB3 : Blk (flat1 ρA) 1 w0 gd_0 (.cells #[v1, .int .i64 d_0.N] 55 (0, 0)) := hB3
 replace h2 : OwnT ref37_Device.c 70 (flat1 ρA) 1 w0 v1 d_0.L := h2
 refine calls_of_ke Tryz.func29 rfl (n := 29) rfl rfl (l := [(0, .pointer (some ⟨gd_0, 0, none⟩)), (1, str user_1), (2, str id_2), (3, .int .i64 now_3)]) rfl ?_
 refine ke_seq ?_
 refine ke_region ?_
 refine sr_ev (v := .bool false) (ev_assign rfl) (by decide) ?_
 refine sr_end (l' := [(0, .pointer (some ⟨gd_0, 0, none⟩)), (1, str user_1), (2, str id_2), (3, .int .i64 now_3)]) (.cons rfl (.cons rfl (.cons rfl (.cons rfl (.nil _))))) ?_
 refine ke_seq ?_
 refine ke_region ?_
 refine sr_ev (v := .pointer (some ⟨gd_0, 0, none⟩)) (ev_move rfl) (by decide) ?_
 refine sr_ev (v := str user_1) (ev_move rfl) (by decide) ?_
 refine sr_ev (v := str id_2) (ev_move rfl) (by decide) ?_
 obtain ⟨y4, hy5, hS⟩ := bind_some' hS
 refine sr_call (vs := [.pointer (some ⟨gd_0, 0, none⟩), str user_1, str id_2]) rfl Tryz.call42 rfl (ref37_Devices_find_ok _ (hg.fr hz hb) (ρA := (flat1 ρA)) hb.bd (hz.fr hg hb) (τ0 := (fun _ => 1)) (fun _ => Nat.le_refl 1) (⟨_, hB3, h2⟩ : ref37_Devices.O (fun _ => 1) (flat1 ρA) w0 gd_0 d_0) hy5) (by decide) ?_
 rintro _ w6 ⟨rfl, hbw7⟩
 have htr8 := Tr.of_below hbw7 hb.bd
 replace hB3 := hB3.mv (htr8.mv (i := 1) rfl)
 replace h2 := h2.mv (htr8.mv (i := 1) rfl) (by decide)
 replace hb := hb.trans htr8
 refine sr_ev (v := .int .i64 y4) (ev_assign rfl) (by decide) ?_
 refine sr_end (l' := [(0, .pointer (some ⟨gd_0, 0, none⟩)), (3, .int .i64 now_3), (9, .int .i64 y4)]) (.cons rfl (.cons rfl (.cons rfl (.nil _)))) ?_
 refine ke_seq ?_
 refine ke_region_q Tryz.mixed (by kernel_rfl) ?_
 refine sq_ev (v := .int .i64 y4) (fun w1 hw1 => ev_move rfl) (by decide) ?_
 refine sq_ev (v := .bool (decide (y4 ≥ 0))) (fun w1 hw1 => ev_ge rfl rfl) (by decide) ?_
 refine sq_ev (v := .bool (decide (y4 ≥ 0))) (fun w1 hw1 => ev_move rfl) (by decide) ?_
 obtain ⟨z13, hz15, hS⟩ := bind_some' hS
 refine sq_join (m := 12) (C := fun (x : Bool) => z13 = x) (l' := fun x => [(28, .bool x)]) ?_ ?_
 ·rintro _ rfl
  refine sq_ev (v := .bool z13) (fun w1 hw1 => ev_assign rfl) (by decide) ?_
  refine sq_end (l' := [(8, .bool z13)]) (.cons rfl (.nil _)) (fun w10 hw9 => ?_)
  have htr32 := Tr.of_below hw9 hb.bd
  replace hb := hb.trans htr32
  cases hS
  exact ke_ret1 Tryz.func29 rfl rfl ⟨_, rfl, rfl, (hb.below (flat1_le _))⟩
 ·intro K12
  clear hS
  rcases Bool.eq_false_or_eq_true (decide (y4 ≥ 0)) with hg11 | hg11
  ·have hS := ite_true' hz15 hg11
   refine sq_evg (b := true) (e := 16) rfl rfl hg11 (v := .int .i64 now_3) (fun w1 hw1 => ev_move rfl) (by decide) ?_
   obtain ⟨y18, hy19, hS⟩ := bind_some' hS
   refine sq_callg (b := true) (e := 16) rfl rfl hg11 (v := .int .i64 y18) (vs := [.int .i64 now_3]) rfl Tryz.call41 rfl (fun w1 hw1 => (ref15_Instant_ok _ ((hg.fr hz hb).below hw1) hy19)) (by decide) ?_
   refine sq_evg (b := true) (e := 16) rfl rfl hg11 (v := .pointer (some ⟨gd_0, 0, none⟩)) (fun w1 hw1 => ev_move rfl) (by decide) ?_
   refine sq_evg (b := true) (e := 16) rfl rfl hg11 (v := .pointer (some ⟨gd_0, 0, none⟩)) (fun w1 hw1 => ev_nilCheck rfl) (by decide) ?_
   refine sq_evg (b := true) (e := 16) rfl rfl hg11 (v := .pointer (some ⟨gd_0, 0, none⟩)) (fun w1 hw1 => ev_fieldAddr (i := 0) Tryz.underlying55 rfl Tryz.info53 rfl rfl) (by decide) ?_
   refine sq_evg (b := true) (e := 16) rfl rfl hg11 (v := v1) (fun w1 hw1 => ev_load Tryz.isAgg53 rfl ((hB3.mv (Mv.of_below (i := 1) (ρ := (flat1 ρA)) hw1)).cell rfl)) (by decide) ?_
   refine sq_evg (b := true) (e := 16) rfl rfl hg11 (v := .int .i64 y4) (fun w1 hw1 => ev_move rfl) (by decide) ?_
   obtain ⟨y23, hy24, hS⟩ := bind_some' hS
   obtain ⟨b25, o26, cs28, hq29, he27, hg30, ho31⟩ := h2.elemQ (P := Tryz.prog) Tryz.underlying53 Tryz.info70 rfl hy24
   obtain rfl : cs28 = [str y23.User, str y23.ID, str y23.Secret, str y23.Challenge, .int .i64 y23.Until] := he27.rd
   refine sq_evg (b := true) (e := 16) rfl rfl hg11 (v := .pointer (some ⟨b25, o26, none⟩)) (fun w1 hw1 => hq29 w1 rfl rfl) (by decide) ?_
   refine sq_evg (b := true) (e := 16) rfl rfl hg11 (v := .pointer (some ⟨b25, o26 + 4, none⟩)) (fun w1 hw1 => ev_fieldAddr (i := 4) Tryz.underlying70 rfl Tryz.info3 rfl rfl) (by decide) ?_
   refine sq_evg (b := true) (e := 16) rfl rfl hg11 (v := .int .i64 y23.Until) (fun w1 hw1 => ev_load Tryz.isAgg3 rfl ((he27.mv (Mv.of_below (i := 1) (ρ := (flat1 ρA)) hw1) (Nat.succ_pos _)).cell 4 _ rfl)) (by decide) ?_
   refine sq_evg (b := true) (e := 16) rfl rfl hg11 (v := .bool (decide (y18 < y23.Until))) (fun w1 hw1 => ev_lt rfl rfl) (by decide) ?_
   refine sq_ev (v := .bool (decide (y18 < y23.Until))) (fun w1 hw1 => ev_pick_t rfl hg11 rfl) (by decide) ?_
   exact sq_weaken (l' := [(28, .bool (decide (y18 < y23.Until)))]) (.cons rfl (.nil _)) (K12 (decide (y18 < y23.Until)) (Option.some.inj hS).symm)
  ·have hS := ite_false' hz15 hg11
   refine sq_pass (e := 16) rfl rfl (by rw [hg11]; rfl) (by decide) ?_
   refine sq_pass (e := 16) rfl rfl (by rw [hg11]; rfl) (by decide) ?_
   refine sq_pass (e := 16) rfl rfl (by rw [hg11]; rfl) (by decide) ?_
   refine sq_pass (e := 16) rfl rfl (by rw [hg11]; rfl) (by decide) ?_
   refine sq_pass (e := 16) rfl rfl (by rw [hg11]; rfl) (by decide) ?_
   refine sq_pass (e := 16) rfl rfl (by rw [hg11]; rfl) (by decide) ?_
   refine sq_pass (e := 16) rfl rfl (by rw [hg11]; rfl) (by decide) ?_
   refine sq_pass (e := 16) rfl rfl (by rw [hg11]; rfl) (by decide) ?_
   refine sq_pass (e := 16) rfl rfl (by rw [hg11]; rfl) (by decide) ?_
   refine sq_pass (e := 16) rfl rfl (by rw [hg11]; rfl) (by decide) ?_
   refine sq_pass (e := 16) rfl rfl (by rw [hg11]; rfl) (by decide) ?_
   refine sq_ev (v := .bool false) (fun w1 hw1 => ev_pick_f rfl hg11 rfl) (by decide) ?_
   exact sq_weaken (l' := [(28, .bool false)]) (.cons rfl (.nil _)) (K12 false (Option.some.inj hS).symm)
theorem ref37_Devices_ready_ok (w0 : World) (hg : Gs w0) {ρA : Tags} (hbd : ∀ b, ρA b ≠ 0 → b < w0.heap.size) (hz : Gz ρA) {τ0 : Nat → Nat} (hτ0 : ∀ p, 1 ≤ τ0 p) {d_0 : ref37_Devices} {user_1 : Str} {id_2 : Str} {now_3 : Int} {gd_0 : Nat} {r : Int × Int} (ho0 : ref37_Devices.O τ0 ρA w0 gd_0 d_0) (hS : ref37_Devices_ready d_0 user_1 id_2 now_3 = some r) :
  Calls Tryz.prog 43 #[.pointer (some ⟨gd_0, 0, none⟩), str user_1, str id_2, .int .i64 now_3] w0 (Ret (fun v w' => v = .tuple #[.int .i64 r.1, .int .i64 r.2] ∧ Below w0.heap.size w0 w')) := by
 unfold ref37_Devices_ready at hS
 have hb := flat1_fr (ρ := ρA) (w := w0) hbd
 have hz := hz.flat1
 obtain ⟨v1, hB3, h2⟩ := ho0
 replace hB3 := hB3.mv (flat1_mv (hτ0 0))
 replace h2 := h2.mv (flat1_mv (hτ0 1)) (by decide)
 replace hB3 : Blk (flat1 ρA) 1 w0 gd_0 (.cells #[v1, .int .i64 d_0.N] 55 (0, 0)) := hB3
 replace h2 : OwnT ref37_Device.c 70 (flat1 ρA) 1 w0 v1 d_0.L := h2
 refine calls_of_ke Tryz.func43 rfl (n := 24) rfl rfl (l := [(0, .pointer (some ⟨gd_0, 0, none⟩)), (1, str user_1), (2, str id_2), (3, .int .i64 now_3)]) rfl ?_
 refine ke_seq ?_
 refine ke_region ?_
 refine sr_ev (v := .int .i64 0) (ev_assign rfl) (by decide) ?_
 refine sr_ev (v := .int .i64 0) (ev_assign rfl) (by decide) ?_
 refine sr_end (l' := [(0, .pointer (some ⟨gd_0, 0, none⟩)), (1, str user_1), (2, str id_2), (3, .int .i64 now_3)]) (.cons rfl (.cons rfl (.cons rfl (.cons rfl (.nil _))))) ?_
 refine ke_seq ?_
 refine ke_region ?_
 refine sr_ev (v := .pointer (some ⟨gd_0, 0, none⟩)) (ev_move rfl) (by decide) ?_
 refine sr_ev (v := str user_1) (ev_move rfl) (by decide) ?_
 refine sr_ev (v := str id_2) (ev_move rfl) (by decide) ?_
 obtain ⟨y4, hy5, hS⟩ := bind_some' hS
 refine sr_call (vs := [.pointer (some ⟨gd_0, 0, none⟩), str user_1, str id_2]) rfl Tryz.call42 rfl (ref37_Devices_find_ok _ (hg.fr hz hb) (ρA := (flat1 ρA)) hb.bd (hz.fr hg hb) (τ0 := (fun _ => 1)) (fun _ => Nat.le_refl 1) (⟨_, hB3, h2⟩ : ref37_Devices.O (fun _ => 1) (flat1 ρA) w0 gd_0 d_0) hy5) (by decide) ?_
 rintro _ w6 ⟨rfl, hbw7⟩
 have htr8 := Tr.of_below hbw7 hb.bd
 replace hB3 := hB3.mv (htr8.mv (i := 1) rfl)
 replace h2 := h2.mv (htr8.mv (i := 1) rfl) (by decide)
 replace hb := hb.trans htr8
 refine sr_ev (v := .int .i64 y4) (ev_assign rfl) (by decide) ?_
 refine sr_end (l' := [(0, .pointer (some ⟨gd_0, 0, none⟩)), (1, str user_1), (2, str id_2), (3, .int .i64 now_3), (10, .int .i64 y4)]) (.cons rfl (.cons rfl (.cons rfl (.cons rfl (.cons rfl (.nil _)))))) ?_
 refine ke_seq ?_
 refine ke_seq ?_
 refine ke_region ?_
 refine sr_ev (v := .int .i64 y4) (ev_move rfl) (by decide) ?_
 refine sr_ev (v := .bool (decide (y4 < 0))) (ev_lt rfl rfl) (by decide) ?_
 refine sr_end (l' := [(0, .pointer (some ⟨gd_0, 0, none⟩)), (1, str user_1), (2, str id_2), (3, .int .i64 now_3), (10, .int .i64 y4), (16, .bool (decide (y4 < 0)))]) (.cons rfl (.cons rfl (.cons rfl (.cons rfl (.cons rfl (.cons rfl (.nil _))))))) ?_
 refine ke_cond (t := decide (y4 < 0)) rfl (fun hc9 => ?_) (fun hc9 => ?_)
 ·replace hS := ite_true' hS hc9
  refine ke_seq ?_
  refine ke_region ?_
  refine sr_ev (v := .int .i64 0) (ev_assign rfl) (by decide) ?_
  refine sr_ev (v := .int .i64 6) (ev_assign rfl) (by decide) ?_
  refine sr_end (l' := [(8, .int .i64 0), (9, .int .i64 6)]) (.cons rfl (.cons rfl (.nil _))) ?_
  cases hS
  exact ke_ret2 Tryz.func43 rfl rfl rfl ⟨_, rfl, rfl, (hb.below (flat1_le _))⟩
 ·replace hS := ite_false' hS hc9
  refine ke_skip ?_
  refine ke_seq ?_
  refine ke_seq ?_
  refine ke_region ?_
  refine sr_ev (v := .pointer (some ⟨gd_0, 0, none⟩)) (ev_move rfl) (by decide) ?_
  refine sr_ev (v := str user_1) (ev_move rfl) (by decide) ?_
  refine sr_ev (v := str id_2) (ev_move rfl) (by decide) ?_
  refine sr_ev (v := .int .i64 now_3) (ev_move rfl) (by decide) ?_
  obtain ⟨y10, hy11, hS⟩ := bind_some' hS
  refine sr_call (vs := [.pointer (some ⟨gd_0, 0, none⟩), str user_1, str id_2, .int .i64 now_3]) rfl Tryz.call29 rfl (ref37_Devices_Trusted_ok _ (hg.fr hz hb) (ρA := (flat1 ρA)) hb.bd (hz.fr hg hb) (τ0 := (fun _ => 1)) (fun _ => Nat.le_refl 1) (⟨_, hB3, h2⟩ : ref37_Devices.O (fun _ => 1) (flat1 ρA) w6 gd_0 d_0) hy11) (by decide) ?_
  rintro _ w12 ⟨rfl, hbw13⟩
  have htr14 := Tr.of_below hbw13 hb.bd
  replace hb := hb.trans htr14
  refine sr_ev (v := .bool (!y10)) (ev_not rfl) (by decide) ?_
  refine sr_end (l' := [(10, .int .i64 y4), (22, .bool (!y10))]) (.cons rfl (.cons rfl (.nil _))) ?_
  refine ke_cond (t := !y10) rfl (fun hc15 => ?_) (fun hc15 => ?_)
  ·replace hS := ite_true' hS hc15
   refine ke_seq ?_
   refine ke_region ?_
   refine sr_ev (v := .int .i64 0) (ev_assign rfl) (by decide) ?_
   refine sr_ev (v := .int .i64 13) (ev_assign rfl) (by decide) ?_
   refine sr_end (l' := [(8, .int .i64 0), (9, .int .i64 13)]) (.cons rfl (.cons rfl (.nil _))) ?_
   cases hS
   exact ke_ret2 Tryz.func43 rfl rfl rfl ⟨_, rfl, rfl, (hb.below (flat1_le _))⟩
  ·replace hS := ite_false' hS hc15
   refine ke_skip ?_
   refine ke_seq ?_
   refine ke_region ?_
   refine sr_ev (v := .int .i64 y4) (ev_move rfl) (by decide) ?_
   refine sr_ev (v := .int .i64 y4) (ev_assign rfl) (by decide) ?_
   refine sr_ev (v := .int .i64 0) (ev_assign rfl) (by decide) ?_
   refine sr_end (l' := [(8, .int .i64 y4), (9, .int .i64 0)]) (.cons rfl (.cons rfl (.nil _))) ?_
   cases hS
   exact ke_ret2 Tryz.func43 rfl rfl rfl ⟨_, rfl, rfl, (hb.below (flat1_le _))⟩
theorem ref02_Int_B2_ok {w0 : World} (hg : Gs w0) {A0 : Nat → Prop} (hA0 : ∀ b, A0 b → b < w0.heap.size) (r0 : Int → Str → Int → Option (Str))
  (hr0 : ∀ {r : Str} {n_0 : Int} {out_3 : Str} {m_4 : Int}, r0 n_0 out_3 m_4 = some r → ∀ {w : World} {A : Nat → Prop}, (Below w0.heap.size w0 w) → (∀ b, A b → b < w.heap.size) → (∀ b, A0 b → A b) → (Hp A w0.heap.size w []) → KE Tryz.prog 60 (Ret (fun v w' => v = str r ∧ Below w0.heap.size w0 w')) 31 [.inLoop (sub (bodyOf Tryz.f60) [2, 2, 2, 1, 2, 2, 1]), .inBlock 0, .code (sub (bodyOf Tryz.f60) [2, 2, 2, 2])] [(0, .int .i64 n_0), (3, str out_3), (4, .int .i64 m_4)] w) {r : Str} {n_0 : Int} {out_3 : Str} {m_4 : Int} {d_5 : Int} (hS : ref02_Int_B2 r0 n_0 out_3 m_4 d_5 = some r) {w : World} {A : Nat → Prop} (hb : Below w0.heap.size w0 w) (hA : ∀ b, A b → b < w.heap.size) (hi : ∀ b, A0 b → A b) (hH : Hp A w0.heap.size w []) :
  KE Tryz.prog 60 (Ret (fun v w' => v = str r ∧ Below w0.heap.size w0 w')) 31 [.code (sub (bodyOf Tryz.f60) [2, 2, 2, 1, 2, 2, 1, 2, 1, 2, 2, 2]), .inBlock 1, .code (sub (bodyOf Tryz.f60) [2, 2, 2, 1, 2, 2, 1, 2, 2]), .inLoop (sub (bodyOf Tryz.f60) [2, 2, 2, 1, 2, 2, 1]), .inBlock 0, .code (sub (bodyOf Tryz.f60) [2, 2, 2, 2])] [(0, .int .i64 n_0), (3, str out_3), (4, .int .i64 m_4), (5, .int .i64 d_5)] w := by
 unfold ref02_Int_B2 at hS
 refine ke_region ?_
 refine sr_ev (v := .int .i64 d_5) (ev_move rfl) (by decide) ?_
 refine sr_ev (v := .int .i64 (IntKind.i64.wrap (48 + d_5))) (ev_add rfl rfl) (by decide) ?_
 refine sr_ev (v := .int .u8 (IntKind.u8.wrap (IntKind.i64.wrap (48 + d_5)))) (ev_conv Tryz.underlying5 Tryz.underlying3 rfl) (by decide) ?_
 refine sr_lit (c := (intC .u8)) (A := A) (E := 5) (xs := [IntKind.u8.wrap (IntKind.i64.wrap (48 + d_5))]) (vs := #[(0, .int .u8 (IntKind.u8.wrap (IntKind.i64.wrap (48 + d_5))))]) (cs := #[.int .u8 (IntKind.u8.wrap (IntKind.i64.wrap (48 + d_5)))]) (css := [[.int .u8 (IntKind.u8.wrap (IntKind.i64.wrap (48 + d_5)))]]) rfl (fun _ => by kernel_rfl) rfl ⟨rfl, trivial⟩ rfl (by decide) hA (by decide) ?_
 intro v4 w6 h5 hbw7
 replace hb := hb.trans (hbw7.mono hb.size)
 replace hA := lt_mono hA hbw7.size
 replace hH := hH.below hbw7
 refine sr_ev (v := str (bytesStr ([IntKind.u8.wrap (IntKind.i64.wrap (48 + d_5))] : List Int))) (ev_b2s h5 Tryz.underlying83 Tryz.underlying5 Tryz.underlying9 rfl) (by decide) ?_
 refine sr_ev (v := str out_3) (ev_move rfl) (by decide) ?_
 obtain ⟨hk8, hS⟩ := chk_some hS
 refine sr_ev (v := str ((bytesStr ([IntKind.u8.wrap (IntKind.i64.wrap (48 + d_5))] : List Int)) ++ out_3)) (ev_cat rfl rfl hk8) (by decide) ?_
 refine sr_ev (v := str ((bytesStr ([IntKind.u8.wrap (IntKind.i64.wrap (48 + d_5))] : List Int)) ++ out_3)) (ev_assign rfl) (by decide) ?_
 refine sr_end (l' := [(0, .int .i64 n_0), (3, str ((bytesStr ([IntKind.u8.wrap (IntKind.i64.wrap (48 + d_5))] : List Int)) ++ out_3)), (4, .int .i64 m_4)]) (.cons rfl (.cons rfl (.cons rfl (.nil _)))) ?_
 refine ke_inBlock ?_
 refine ke_region ?_
 refine sr_ev (v := .int .i64 m_4) (ev_move rfl) (by decide) ?_
 refine sr_ev (v := .int .i64 (IntKind.i64.wrap (m_4.tdiv 10))) (ev_quo rfl rfl (by decide)) (by decide) ?_
 refine sr_ev (v := .int .i64 (IntKind.i64.wrap (m_4.tdiv 10))) (ev_assign rfl) (by decide) ?_
 refine sr_end (l' := [(0, .int .i64 n_0), (3, str ((bytesStr ([IntKind.u8.wrap (IntKind.i64.wrap (48 + d_5))] : List Int)) ++ out_3)), (4, .int .i64 (IntKind.i64.wrap (m_4.tdiv 10)))]) (.cons rfl (.cons rfl (.cons rfl (.nil _)))) ?_
 have hK := hr0 hS hb hA hi hH
 exact ke_weaken (l' := [(0, .int .i64 n_0), (3, str ((bytesStr ([IntKind.u8.wrap (IntKind.i64.wrap (48 + d_5))] : List Int)) ++ out_3)), (4, .int .i64 (IntKind.i64.wrap (m_4.tdiv 10)))]) (.cons rfl (.cons rfl (.cons rfl (.nil _)))) hK
theorem ref02_Int_L1_ok {w0 : World} (hg : Gs w0) {A0 : Nat → Prop} (hA0 : ∀ b, A0 b → b < w0.heap.size) : ∀ (n : Nat), ∀ {r : Str} {n_0 : Int} {out_3 : Str} {m_4 : Int}, ref02_Int_L1 n n_0 out_3 m_4 = some r → ∀ {w : World} {A : Nat → Prop}, (Below w0.heap.size w0 w) → (∀ b, A b → b < w.heap.size) → (∀ b, A0 b → A b) → (Hp A w0.heap.size w []) → KE Tryz.prog 60 (Ret (fun v w' => v = str r ∧ Below w0.heap.size w0 w')) 31 [.code (sub (bodyOf Tryz.f60) [2, 2, 2, 1, 2, 2, 1]), .inLoop (sub (bodyOf Tryz.f60) [2, 2, 2, 1, 2, 2, 1]), .inBlock 0, .code (sub (bodyOf Tryz.f60) [2, 2, 2, 2])] [(0, .int .i64 n_0), (3, str out_3), (4, .int .i64 m_4)] w := by
 intro n
 induction n with
 | zero => intro r n_0 out_3 m_4 hS; cases hS
 | succ n ih =>
  have hr0 : ∀ {r : Str} {n_0 : Int} {out_3 : Str} {m_4 : Int}, ref02_Int_L1 n n_0 out_3 m_4 = some r → ∀ {w : World} {A : Nat → Prop}, (Below w0.heap.size w0 w) → (∀ b, A b → b < w.heap.size) → (∀ b, A0 b → A b) → (Hp A w0.heap.size w []) → KE Tryz.prog 60 (Ret (fun v w' => v = str r ∧ Below w0.heap.size w0 w')) 31 [.inLoop (sub (bodyOf Tryz.f60) [2, 2, 2, 1, 2, 2, 1]), .inBlock 0, .code (sub (bodyOf Tryz.f60) [2, 2, 2, 2])] [(0, .int .i64 n_0), (3, str out_3), (4, .int .i64 m_4)] w := fun {r} {n_0} {out_3} {m_4} hS {w} {A} hb hA hi hH => ke_inLoop (ih hS hb hA hi hH)
  clear ih
  intro r n_0 out_3 m_4 hS w A hb hA hi hH
  unfold ref02_Int_L1 at hS
  refine ke_seq ?_
  refine ke_seq ?_
  refine ke_region ?_
  refine sr_ev (v := .int .i64 m_4) (ev_move rfl) (by decide) ?_
  refine sr_ev (v := .bool (m_4 != 0)) (ev_ne rfl rfl) (by decide) ?_
  refine sr_end (l' := [(0, .int .i64 n_0), (3, str out_3), (4, .int .i64 m_4), (10, .bool (m_4 != 0))]) (.cons rfl (.cons rfl (.cons rfl (.cons rfl (.nil _))))) ?_
  refine ke_cond (t := m_4 != 0) rfl (fun hc2 => ?_) (fun hc2 => ?_)
  ·replace hS := ite_true' hS hc2
   refine ke_skip ?_
   refine ke_seq ?_
   refine ke_block ?_
   refine ke_seq ?_
   refine ke_region ?_
   refine sr_ev (v := .int .i64 m_4) (ev_move rfl) (by decide) ?_
   refine sr_ev (v := .int .i64 (Int.tmod m_4 10)) (ev_rem rfl rfl (by decide)) (by decide) ?_
   refine sr_ev (v := .int .i64 (Int.tmod m_4 10)) (ev_assign rfl) (by decide) ?_
   refine sr_end (l' := [(0, .int .i64 n_0), (3, str out_3), (4, .int .i64 m_4), (5, .int .i64 (Int.tmod m_4 10))]) (.cons rfl (.cons rfl (.cons rfl (.cons rfl (.nil _))))) ?_
   refine ke_seq ?_
   refine ke_seq ?_
   refine ke_region ?_
   refine sr_ev (v := .int .i64 (Int.tmod m_4 10)) (ev_move rfl) (by decide) ?_
   refine sr_ev (v := .bool (decide ((Int.tmod m_4 10) < 0))) (ev_lt rfl rfl) (by decide) ?_
   refine sr_end (l' := [(0, .int .i64 n_0), (3, str out_3), (4, .int .i64 m_4), (5, .int .i64 (Int.tmod m_4 10)), (16, .bool (decide ((Int.tmod m_4 10) < 0)))]) (.cons rfl (.cons rfl (.cons rfl (.cons rfl (.cons rfl (.nil _)))))) ?_
   refine ke_cond (t := decide ((Int.tmod m_4 10) < 0)) rfl (fun hc3 => ?_) (fun hc3 => ?_)
   ·replace hS := ite_true' hS hc3
    refine ke_region ?_
    refine sr_ev (v := .int .i64 (Int.tmod m_4 10)) (ev_move rfl) (by decide) ?_
    refine sr_ev (v := .int .i64 (IntKind.i64.wrap (0 - (Int.tmod m_4 10)))) (ev_neg rfl) (by decide) ?_
    refine sr_ev (v := .int .i64 (IntKind.i64.wrap (0 - (Int.tmod m_4 10)))) (ev_assign rfl) (by decide) ?_
    refine sr_end (l' := [(0, .int .i64 n_0), (3, str out_3), (4, .int .i64 m_4), (5, .int .i64 (IntKind.i64.wrap (0 - (Int.tmod m_4 10))))]) (.cons rfl (.cons rfl (.cons rfl (.cons rfl (.nil _))))) ?_
    have hK := ref02_Int_B2_ok hg hA0 _ hr0 hS hb hA hi hH
    exact ke_weaken (l' := [(0, .int .i64 n_0), (3, str out_3), (4, .int .i64 m_4), (5, .int .i64 (IntKind.i64.wrap (0 - (Int.tmod m_4 10))))]) (.cons rfl (.cons rfl (.cons rfl (.cons rfl (.nil _))))) hK
   ·replace hS := ite_false' hS hc3
    refine ke_skip ?_
    have hK := ref02_Int_B2_ok hg hA0 _ hr0 hS hb hA hi hH
    exact ke_weaken (l' := [(0, .int .i64 n_0), (3, str out_3), (4, .int .i64 m_4), (5, .int .i64 (Int.tmod m_4 10))]) (.cons rfl (.cons rfl (.cons rfl (.cons rfl (.nil _))))) hK
  ·replace hS := ite_false' hS hc2
   refine ke_exit (k' := _) rfl ?_
   refine ke_seq ?_
   refine ke_seq ?_
   refine ke_region ?_
   refine sr_ev (v := .int .i64 n_0) (ev_move rfl) (by decide) ?_
   refine sr_ev (v := .bool (decide (n_0 < 0))) (ev_lt rfl rfl) (by decide) ?_
   refine sr_end (l' := [(3, str out_3), (27, .bool (decide (n_0 < 0)))]) (.cons rfl (.cons rfl (.nil _))) ?_
   refine ke_cond (t := decide (n_0 < 0)) rfl (fun hc9 => ?_) (fun hc9 => ?_)
   ·replace hS := ite_true' hS hc9
    refine ke_seq ?_
    refine ke_region ?_
    refine sr_ev (v := str out_3) (ev_move rfl) (by decide) ?_
    obtain ⟨hk10, hS⟩ := chk_some hS
    refine sr_ev (v := str (([45]) ++ out_3)) (ev_cat rfl rfl hk10) (by decide) ?_
    refine sr_ev (v := str (([45]) ++ out_3)) (ev_assign rfl) (by decide) ?_
    refine sr_end (l' := [(2, str (([45]) ++ out_3))]) (.cons rfl (.nil _)) ?_
    cases hS
    exact ke_ret1 Tryz.func60 rfl rfl ⟨_, rfl, rfl, hb⟩
   ·replace hS := ite_false' hS hc9
    refine ke_skip ?_
    refine ke_seq ?_
    refine ke_region ?_
    refine sr_ev (v := str out_3) (ev_move rfl) (by decide) ?_
    refine sr_ev (v := str out_3) (ev_assign rfl) (by decide) ?_
    refine sr_end (l' := [(2, str out_3)]) (.cons rfl (.nil _)) ?_
    cases hS
    exact ke_ret1 Tryz.func60 rfl rfl ⟨_, rfl, rfl, hb⟩
theorem ref02_Int_ok (w0 : World) (hg : Gs w0) {n_0 : Int} {r : Str} (hS : ref02_Int n_0 = some r) :
  Calls Tryz.prog 60 #[.int .i64 n_0] w0 (Ret (fun v w' => v = str r ∧ Below w0.heap.size w0 w')) := by
 unfold ref02_Int at hS
 have hb := Below.refl w0.heap.size w0
 obtain ⟨A0, hA0, hAe⟩ : ∃ A0 : Nat → Prop, (∀ b, A0 b → b < w0.heap.size) ∧ A0 = fun _ => False := ⟨_, fun _ h => h.elim, rfl⟩
 clear hAe
 have hA := hA0
 have hi : ∀ b, A0 b → A0 b := fun _ h => h
 have hH := Hp.nil A0 w0.heap.size w0
 refine calls_of_ke Tryz.func60 rfl (n := 31) rfl rfl (l := [(0, .int .i64 n_0)]) rfl ?_
 refine ke_seq ?_
 refine ke_region ?_
 refine sr_ev (v := str ([])) (ev_assign rfl) (by decide) ?_
 refine sr_end (l' := [(0, .int .i64 n_0)]) (.cons rfl (.nil _)) ?_
 refine ke_seq ?_
 refine ke_seq ?_
 refine ke_region ?_
 refine sr_ev (v := .int .i64 n_0) (ev_move rfl) (by decide) ?_
 refine sr_ev (v := .bool (n_0 == 0)) (ev_eq rfl rfl) (by decide) ?_
 refine sr_end (l' := [(0, .int .i64 n_0), (7, .bool (n_0 == 0))]) (.cons rfl (.cons rfl (.nil _))) ?_
 refine ke_cond (t := n_0 == 0) rfl (fun hc1 => ?_) (fun hc1 => ?_)
 ·replace hS := ite_true' hS hc1
  refine ke_seq ?_
  refine ke_region ?_
  refine sr_ev (v := str ([48])) (ev_assign rfl) (by decide) ?_
  refine sr_end (l' := [(2, str ([48]))]) (.cons rfl (.nil _)) ?_
  cases hS
  exact ke_ret1 Tryz.func60 rfl rfl ⟨_, rfl, rfl, hb⟩
 ·replace hS := ite_false' hS hc1
  refine ke_skip ?_
  refine ke_seq ?_
  refine ke_region ?_
  refine sr_ev (v := str ([])) (ev_assign rfl) (by decide) ?_
  refine sr_end (l' := [(0, .int .i64 n_0), (3, str ([]))]) (.cons rfl (.cons rfl (.nil _))) ?_
  refine ke_seq ?_
  refine ke_seq ?_
  refine ke_region ?_
  refine sr_ev (v := .int .i64 n_0) (ev_move rfl) (by decide) ?_
  refine sr_ev (v := .int .i64 n_0) (ev_assign rfl) (by decide) ?_
  refine sr_end (l' := [(0, .int .i64 n_0), (3, str ([])), (4, .int .i64 n_0)]) (.cons rfl (.cons rfl (.cons rfl (.nil _)))) ?_
  refine ke_block ?_
  have hK := ref02_Int_L1_ok hg hA0 _ hS hb hA hi hH
  exact ke_weaken (l' := [(0, .int .i64 n_0), (3, str ([])), (4, .int .i64 n_0)]) (.cons rfl (.cons rfl (.cons rfl (.nil _)))) (ke_loop hK)
theorem ref03_Sum_L1_ok {w0 : World} (hg : Gs w0) : ∀ (n : Nat), ∀ {r : Int} {s_0 : Str} {h_3 : Int} {i_4 : Int}, ref03_Sum_L1 n s_0 h_3 i_4 = some r → ∀ {w : World}, (Below w0.heap.size w0 w) → KE Tryz.prog 77 (Ret (fun v w' => v = .int .u64 r ∧ Below w0.heap.size w0 w')) 34 [.code (sub (bodyOf Tryz.f77) [2, 2, 1, 2, 2, 1]), .inLoop (sub (bodyOf Tryz.f77) [2, 2, 1, 2, 2, 1]), .inBlock 0, .code (sub (bodyOf Tryz.f77) [2, 2, 2])] [(0, str s_0), (3, .int .u64 h_3), (4, .int .i64 i_4)] w := by
 intro n
 induction n with
 | zero => intro r s_0 h_3 i_4 hS; cases hS
 | succ n ih =>
  have hr0 : ∀ {r : Int} {s_0 : Str} {h_3 : Int} {i_4 : Int}, ref03_Sum_L1 n s_0 h_3 i_4 = some r → ∀ {w : World}, (Below w0.heap.size w0 w) → KE Tryz.prog 77 (Ret (fun v w' => v = .int .u64 r ∧ Below w0.heap.size w0 w')) 34 [.inLoop (sub (bodyOf Tryz.f77) [2, 2, 1, 2, 2, 1]), .inBlock 0, .code (sub (bodyOf Tryz.f77) [2, 2, 2])] [(0, str s_0), (3, .int .u64 h_3), (4, .int .i64 i_4)] w := fun {r} {s_0} {h_3} {i_4} hS {w} hb => ke_inLoop (ih hS hb)
  clear ih
  intro r s_0 h_3 i_4 hS w hb
  unfold ref03_Sum_L1 at hS
  refine ke_seq ?_
  refine ke_seq ?_
  refine ke_region ?_
  refine sr_ev (v := .int .i64 i_4) (ev_move rfl) (by decide) ?_
  refine sr_ev (v := str s_0) (ev_move rfl) (by decide) ?_
  refine sr_ev (v := .int .i64 (s_0.length : Int)) (ev_slen Tryz.underlying9 rfl) (by decide) ?_
  refine sr_ev (v := .bool (decide (i_4 < (s_0.length : Int)))) (ev_lt rfl rfl) (by decide) ?_
  refine sr_end (l' := [(0, str s_0), (3, .int .u64 h_3), (4, .int .i64 i_4), (8, .bool (decide (i_4 < (s_0.length : Int))))]) (.cons rfl (.cons rfl (.cons rfl (.cons rfl (.nil _))))) ?_
  refine ke_cond (t := decide (i_4 < (s_0.length : Int))) rfl (fun hc1 => ?_) (fun hc1 => ?_)
  ·replace hS := ite_true' hS hc1
   refine ke_skip ?_
   refine ke_seq ?_
   refine ke_block ?_
   refine ke_region ?_
   refine sr_ev (v := .int .u64 h_3) (ev_move rfl) (by decide) ?_
   refine sr_ev (v := str s_0) (ev_move rfl) (by decide) ?_
   refine sr_ev (v := .int .i64 i_4) (ev_move rfl) (by decide) ?_
   obtain ⟨hk2, hS⟩ := chk_some hS
   refine sr_ev (v := .int .u8 (byteAt s_0 i_4)) (ev_sindex Tryz.underlying9 rfl rfl hk2) (by decide) ?_
   refine sr_ev (v := .int .u64 (IntKind.u64.wrap (byteAt s_0 i_4))) (ev_conv Tryz.underlying77 Tryz.underlying5 rfl) (by decide) ?_
   refine sr_ev (v := .int .u64 (bXor .u64 h_3 (IntKind.u64.wrap (byteAt s_0 i_4)))) (ev_xor rfl rfl) (by decide) ?_
   refine sr_ev (v := .int .u64 (IntKind.u64.wrap ((bXor .u64 h_3 (IntKind.u64.wrap (byteAt s_0 i_4))) * 1099511628211))) (ev_mul rfl rfl) (by decide) ?_
   refine sr_ev (v := .int .u64 (IntKind.u64.wrap ((bXor .u64 h_3 (IntKind.u64.wrap (byteAt s_0 i_4))) * 1099511628211))) (ev_assign rfl) (by decide) ?_
   refine sr_end (l' := [(0, str s_0), (3, .int .u64 (IntKind.u64.wrap ((bXor .u64 h_3 (IntKind.u64.wrap (byteAt s_0 i_4))) * 1099511628211))), (4, .int .i64 i_4)]) (.cons rfl (.cons rfl (.cons rfl (.nil _)))) ?_
   refine ke_inBlock ?_
   refine ke_region ?_
   refine sr_ev (v := .int .i64 i_4) (ev_move rfl) (by decide) ?_
   refine sr_ev (v := .int .i64 (IntKind.i64.wrap (i_4 + 1))) (ev_add rfl rfl) (by decide) ?_
   refine sr_ev (v := .int .i64 (IntKind.i64.wrap (i_4 + 1))) (ev_assign rfl) (by decide) ?_
   refine sr_end (l' := [(0, str s_0), (3, .int .u64 (IntKind.u64.wrap ((bXor .u64 h_3 (IntKind.u64.wrap (byteAt s_0 i_4))) * 1099511628211))), (4, .int .i64 (IntKind.i64.wrap (i_4 + 1)))]) (.cons rfl (.cons rfl (.cons rfl (.nil _)))) ?_
   have hK := hr0 hS hb
   exact ke_weaken (l' := [(0, str s_0), (3, .int .u64 (IntKind.u64.wrap ((bXor .u64 h_3 (IntKind.u64.wrap (byteAt s_0 i_4))) * 1099511628211))), (4, .int .i64 (IntKind.i64.wrap (i_4 + 1)))]) (.cons rfl (.cons rfl (.cons rfl (.nil _)))) hK
  ·replace hS := ite_false' hS hc1
   refine ke_exit (k' := _) rfl ?_
   refine ke_seq ?_
   refine ke_region ?_
   refine sr_ev (v := .int .u64 h_3) (ev_move rfl) (by decide) ?_
   refine sr_ev (v := .int .u64 h_3) (ev_move rfl) (by decide) ?_
   refine sr_ev (v := .int .u64 (bShr .u64 h_3 33)) (ev_shr rfl rfl (by decide)) (by decide) ?_
   refine sr_ev (v := .int .u64 (bXor .u64 h_3 (bShr .u64 h_3 33))) (ev_xor rfl rfl) (by decide) ?_
   refine sr_ev (v := .int .u64 (bXor .u64 h_3 (bShr .u64 h_3 33))) (ev_assign rfl) (by decide) ?_
   refine sr_end (l' := [(3, .int .u64 (bXor .u64 h_3 (bShr .u64 h_3 33)))]) (.cons rfl (.nil _)) ?_
   refine ke_seq ?_
   refine ke_region ?_
   refine sr_ev (v := .int .u64 (bXor .u64 h_3 (bShr .u64 h_3 33))) (ev_move rfl) (by decide) ?_
   refine sr_ev (v := .int .u64 (IntKind.u64.wrap ((bXor .u64 h_3 (bShr .u64 h_3 33)) * 18397679294719823053))) (ev_mul rfl rfl) (by decide) ?_
   refine sr_ev (v := .int .u64 (IntKind.u64.wrap ((bXor .u64 h_3 (bShr .u64 h_3 33)) * 18397679294719823053))) (ev_assign rfl) (by decide) ?_
   refine sr_end (l' := [(3, .int .u64 (IntKind.u64.wrap ((bXor .u64 h_3 (bShr .u64 h_3 33)) * 18397679294719823053)))]) (.cons rfl (.nil _)) ?_
   refine ke_seq ?_
   refine ke_region ?_
   refine sr_ev (v := .int .u64 (IntKind.u64.wrap ((bXor .u64 h_3 (bShr .u64 h_3 33)) * 18397679294719823053))) (ev_move rfl) (by decide) ?_
   refine sr_ev (v := .int .u64 (IntKind.u64.wrap ((bXor .u64 h_3 (bShr .u64 h_3 33)) * 18397679294719823053))) (ev_move rfl) (by decide) ?_
   refine sr_ev (v := .int .u64 (bShr .u64 (IntKind.u64.wrap ((bXor .u64 h_3 (bShr .u64 h_3 33)) * 18397679294719823053)) 33)) (ev_shr rfl rfl (by decide)) (by decide) ?_
   refine sr_ev (v := .int .u64 (bXor .u64 (IntKind.u64.wrap ((bXor .u64 h_3 (bShr .u64 h_3 33)) * 18397679294719823053)) (bShr .u64 (IntKind.u64.wrap ((bXor .u64 h_3 (bShr .u64 h_3 33)) * 18397679294719823053)) 33))) (ev_xor rfl rfl) (by decide) ?_
   refine sr_ev (v := .int .u64 (bXor .u64 (IntKind.u64.wrap ((bXor .u64 h_3 (bShr .u64 h_3 33)) * 18397679294719823053)) (bShr .u64 (IntKind.u64.wrap ((bXor .u64 h_3 (bShr .u64 h_3 33)) * 18397679294719823053)) 33))) (ev_assign rfl) (by decide) ?_
   refine sr_end (l' := [(3, .int .u64 (bXor .u64 (IntKind.u64.wrap ((bXor .u64 h_3 (bShr .u64 h_3 33)) * 18397679294719823053)) (bShr .u64 (IntKind.u64.wrap ((bXor .u64 h_3 (bShr .u64 h_3 33)) * 18397679294719823053)) 33)))]) (.cons rfl (.nil _)) ?_
   refine ke_seq ?_
   refine ke_region ?_
   refine sr_ev (v := .int .u64 (bXor .u64 (IntKind.u64.wrap ((bXor .u64 h_3 (bShr .u64 h_3 33)) * 18397679294719823053)) (bShr .u64 (IntKind.u64.wrap ((bXor .u64 h_3 (bShr .u64 h_3 33)) * 18397679294719823053)) 33))) (ev_move rfl) (by decide) ?_
   refine sr_ev (v := .int .u64 (IntKind.u64.wrap ((bXor .u64 (IntKind.u64.wrap ((bXor .u64 h_3 (bShr .u64 h_3 33)) * 18397679294719823053)) (bShr .u64 (IntKind.u64.wrap ((bXor .u64 h_3 (bShr .u64 h_3 33)) * 18397679294719823053)) 33)) * 14181476777654086739))) (ev_mul rfl rfl) (by decide) ?_
   refine sr_ev (v := .int .u64 (IntKind.u64.wrap ((bXor .u64 (IntKind.u64.wrap ((bXor .u64 h_3 (bShr .u64 h_3 33)) * 18397679294719823053)) (bShr .u64 (IntKind.u64.wrap ((bXor .u64 h_3 (bShr .u64 h_3 33)) * 18397679294719823053)) 33)) * 14181476777654086739))) (ev_assign rfl) (by decide) ?_
   refine sr_end (l' := [(3, .int .u64 (IntKind.u64.wrap ((bXor .u64 (IntKind.u64.wrap ((bXor .u64 h_3 (bShr .u64 h_3 33)) * 18397679294719823053)) (bShr .u64 (IntKind.u64.wrap ((bXor .u64 h_3 (bShr .u64 h_3 33)) * 18397679294719823053)) 33)) * 14181476777654086739)))]) (.cons rfl (.nil _)) ?_
   refine ke_seq ?_
   refine ke_region ?_
   refine sr_ev (v := .int .u64 (IntKind.u64.wrap ((bXor .u64 (IntKind.u64.wrap ((bXor .u64 h_3 (bShr .u64 h_3 33)) * 18397679294719823053)) (bShr .u64 (IntKind.u64.wrap ((bXor .u64 h_3 (bShr .u64 h_3 33)) * 18397679294719823053)) 33)) * 14181476777654086739))) (ev_move rfl) (by decide) ?_
   refine sr_ev (v := .int .u64 (IntKind.u64.wrap ((bXor .u64 (IntKind.u64.wrap ((bXor .u64 h_3 (bShr .u64 h_3 33)) * 18397679294719823053)) (bShr .u64 (IntKind.u64.wrap ((bXor .u64 h_3 (bShr .u64 h_3 33)) * 18397679294719823053)) 33)) * 14181476777654086739))) (ev_move rfl) (by decide) ?_
   refine sr_ev (v := .int .u64 (bShr .u64 (IntKind.u64.wrap ((bXor .u64 (IntKind.u64.wrap ((bXor .u64 h_3 (bShr .u64 h_3 33)) * 18397679294719823053)) (bShr .u64 (IntKind.u64.wrap ((bXor .u64 h_3 (bShr .u64 h_3 33)) * 18397679294719823053)) 33)) * 14181476777654086739)) 33)) (ev_shr rfl rfl (by decide)) (by decide) ?_
   refine sr_ev (v := .int .u64 (bXor .u64 (IntKind.u64.wrap ((bXor .u64 (IntKind.u64.wrap ((bXor .u64 h_3 (bShr .u64 h_3 33)) * 18397679294719823053)) (bShr .u64 (IntKind.u64.wrap ((bXor .u64 h_3 (bShr .u64 h_3 33)) * 18397679294719823053)) 33)) * 14181476777654086739)) (bShr .u64 (IntKind.u64.wrap ((bXor .u64 (IntKind.u64.wrap ((bXor .u64 h_3 (bShr .u64 h_3 33)) * 18397679294719823053)) (bShr .u64 (IntKind.u64.wrap ((bXor .u64 h_3 (bShr .u64 h_3 33)) * 18397679294719823053)) 33)) * 14181476777654086739)) 33))) (ev_xor rfl rfl) (by decide) ?_
   refine sr_ev (v := .int .u64 (bXor .u64 (IntKind.u64.wrap ((bXor .u64 (IntKind.u64.wrap ((bXor .u64 h_3 (bShr .u64 h_3 33)) * 18397679294719823053)) (bShr .u64 (IntKind.u64.wrap ((bXor .u64 h_3 (bShr .u64 h_3 33)) * 18397679294719823053)) 33)) * 14181476777654086739)) (bShr .u64 (IntKind.u64.wrap ((bXor .u64 (IntKind.u64.wrap ((bXor .u64 h_3 (bShr .u64 h_3 33)) * 18397679294719823053)) (bShr .u64 (IntKind.u64.wrap ((bXor .u64 h_3 (bShr .u64 h_3 33)) * 18397679294719823053)) 33)) * 14181476777654086739)) 33))) (ev_assign rfl) (by decide) ?_
   refine sr_end (l' := [(2, .int .u64 (bXor .u64 (IntKind.u64.wrap ((bXor .u64 (IntKind.u64.wrap ((bXor .u64 h_3 (bShr .u64 h_3 33)) * 18397679294719823053)) (bShr .u64 (IntKind.u64.wrap ((bXor .u64 h_3 (bShr .u64 h_3 33)) * 18397679294719823053)) 33)) * 14181476777654086739)) (bShr .u64 (IntKind.u64.wrap ((bXor .u64 (IntKind.u64.wrap ((bXor .u64 h_3 (bShr .u64 h_3 33)) * 18397679294719823053)) (bShr .u64 (IntKind.u64.wrap ((bXor .u64 h_3 (bShr .u64 h_3 33)) * 18397679294719823053)) 33)) * 14181476777654086739)) 33)))]) (.cons rfl (.nil _)) ?_
   cases hS
   exact ke_ret1 Tryz.func77 rfl rfl ⟨_, rfl, rfl, hb⟩
theorem ref03_Sum_ok (w0 : World) (hg : Gs w0) {s_0 : Str} {r : Int} (hS : ref03_Sum s_0 = some r) :
  Calls Tryz.prog 77 #[str s_0] w0 (Ret (fun v w' => v = .int .u64 r ∧ Below w0.heap.size w0 w')) := by
 unfold ref03_Sum at hS
 have hb := Below.refl w0.heap.size w0
 refine calls_of_ke Tryz.func77 rfl (n := 34) rfl rfl (l := [(0, str s_0)]) rfl ?_
 refine ke_seq ?_
 refine ke_region ?_
 refine sr_ev (v := .int .u64 0) (ev_assign rfl) (by decide) ?_
 refine sr_end (l' := [(0, str s_0)]) (.cons rfl (.nil _)) ?_
 refine ke_seq ?_
 refine ke_region ?_
 refine sr_ev (v := .int .u64 14695981039346656037) (ev_assign rfl) (by decide) ?_
 refine sr_end (l' := [(0, str s_0), (3, .int .u64 14695981039346656037)]) (.cons rfl (.cons rfl (.nil _))) ?_
 refine ke_seq ?_
 refine ke_seq ?_
 refine ke_region ?_
 refine sr_ev (v := .int .i64 0) (ev_assign rfl) (by decide) ?_
 refine sr_end (l' := [(0, str s_0), (3, .int .u64 14695981039346656037), (4, .int .i64 0)]) (.cons rfl (.cons rfl (.cons rfl (.nil _)))) ?_
 refine ke_block ?_
 have hK := ref03_Sum_L1_ok hg _ hS hb
 exact ke_weaken (l' := [(0, str s_0), (3, .int .u64 14695981039346656037), (4, .int .i64 0)]) (.cons rfl (.cons rfl (.cons rfl (.nil _)))) (ke_loop hK)
theorem ref03_Hex_L1_ok {w0 : World} (hg : Gs w0) : ∀ (n : Nat), ∀ {r : Str} {n_0 : Int} {s_3 : Str} {i_4 : Int}, ref03_Hex_L1 n n_0 s_3 i_4 = some r → ∀ {w : World}, (Below w0.heap.size w0 w) → KE Tryz.prog 76 (Ret (fun v w' => v = str r ∧ Below w0.heap.size w0 w')) 21 [.code (sub (bodyOf Tryz.f76) [2, 2, 1, 2, 2, 1]), .inLoop (sub (bodyOf Tryz.f76) [2, 2, 1, 2, 2, 1]), .inBlock 0, .code (sub (bodyOf Tryz.f76) [2, 2, 2])] [(0, .int .u64 n_0), (3, str s_3), (4, .int .i64 i_4)] w := by
 intro n
 induction n with
 | zero => intro r n_0 s_3 i_4 hS; cases hS
 | succ n ih =>
  have hr0 : ∀ {r : Str} {n_0 : Int} {s_3 : Str} {i_4 : Int}, ref03_Hex_L1 n n_0 s_3 i_4 = some r → ∀ {w : World}, (Below w0.heap.size w0 w) → KE Tryz.prog 76 (Ret (fun v w' => v = str r ∧ Below w0.heap.size w0 w')) 21 [.inLoop (sub (bodyOf Tryz.f76) [2, 2, 1, 2, 2, 1]), .inBlock 0, .code (sub (bodyOf Tryz.f76) [2, 2, 2])] [(0, .int .u64 n_0), (3, str s_3), (4, .int .i64 i_4)] w := fun {r} {n_0} {s_3} {i_4} hS {w} hb => ke_inLoop (ih hS hb)
  clear ih
  intro r n_0 s_3 i_4 hS w hb
  unfold ref03_Hex_L1 at hS
  refine ke_seq ?_
  refine ke_seq ?_
  refine ke_region ?_
  refine sr_ev (v := .int .i64 i_4) (ev_move rfl) (by decide) ?_
  refine sr_ev (v := .bool (decide (i_4 < 16))) (ev_lt rfl rfl) (by decide) ?_
  refine sr_end (l' := [(0, .int .u64 n_0), (3, str s_3), (4, .int .i64 i_4), (7, .bool (decide (i_4 < 16)))]) (.cons rfl (.cons rfl (.cons rfl (.cons rfl (.nil _))))) ?_
  refine ke_cond (t := decide (i_4 < 16)) rfl (fun hc1 => ?_) (fun hc1 => ?_)
  ·replace hS := ite_true' hS hc1
   refine ke_skip ?_
   refine ke_seq ?_
   refine ke_block ?_
   refine ke_seq ?_
   refine ke_region ?_
   refine sr_ev (v := .int .u64 n_0) (ev_move rfl) (by decide) ?_
   refine sr_ev (v := .int .u64 (Int.tmod n_0 16)) (ev_rem rfl rfl (by decide)) (by decide) ?_
   refine sr_ev (v := .int .u64 (Int.tmod n_0 16)) (ev_assign rfl) (by decide) ?_
   refine sr_end (l' := [(0, .int .u64 n_0), (3, str s_3), (4, .int .i64 i_4), (5, .int .u64 (Int.tmod n_0 16))]) (.cons rfl (.cons rfl (.cons rfl (.cons rfl (.nil _))))) ?_
   refine ke_seq ?_
   refine ke_region ?_
   refine sr_ev (v := .int .u64 (Int.tmod n_0 16)) (ev_move rfl) (by decide) ?_
   refine sr_ev (v := .int .u64 (Int.tmod n_0 16)) (ev_move rfl) (by decide) ?_
   refine sr_ev (v := .int .u64 (IntKind.u64.wrap ((Int.tmod n_0 16) + 1))) (ev_add rfl rfl) (by decide) ?_
   obtain ⟨hk2, hS⟩ := chk_some hS
   refine sr_ev (v := str (cut ([48, 49, 50, 51, 52, 53, 54, 55, 56, 57, 97, 98, 99, 100, 101, 102]) (Int.tmod n_0 16) (IntKind.u64.wrap ((Int.tmod n_0 16) + 1)))) (ev_sslice Tryz.underlying9 rfl rfl rfl hk2) (by decide) ?_
   refine sr_ev (v := str s_3) (ev_move rfl) (by decide) ?_
   obtain ⟨hk3, hS⟩ := chk_some hS
   refine sr_ev (v := str ((cut ([48, 49, 50, 51, 52, 53, 54, 55, 56, 57, 97, 98, 99, 100, 101, 102]) (Int.tmod n_0 16) (IntKind.u64.wrap ((Int.tmod n_0 16) + 1))) ++ s_3)) (ev_cat rfl rfl hk3) (by decide) ?_
   refine sr_ev (v := str ((cut ([48, 49, 50, 51, 52, 53, 54, 55, 56, 57, 97, 98, 99, 100, 101, 102]) (Int.tmod n_0 16) (IntKind.u64.wrap ((Int.tmod n_0 16) + 1))) ++ s_3)) (ev_assign rfl) (by decide) ?_
   refine sr_end (l' := [(0, .int .u64 n_0), (3, str ((cut ([48, 49, 50, 51, 52, 53, 54, 55, 56, 57, 97, 98, 99, 100, 101, 102]) (Int.tmod n_0 16) (IntKind.u64.wrap ((Int.tmod n_0 16) + 1))) ++ s_3)), (4, .int .i64 i_4)]) (.cons rfl (.cons rfl (.cons rfl (.nil _)))) ?_
   refine ke_region ?_
   refine sr_ev (v := .int .u64 n_0) (ev_move rfl) (by decide) ?_
   refine sr_ev (v := .int .u64 (IntKind.u64.wrap (n_0.tdiv 16))) (ev_quo rfl rfl (by decide)) (by decide) ?_
   refine sr_ev (v := .int .u64 (IntKind.u64.wrap (n_0.tdiv 16))) (ev_assign rfl) (by decide) ?_
   refine sr_end (l' := [(0, .int .u64 (IntKind.u64.wrap (n_0.tdiv 16))), (3, str ((cut ([48, 49, 50, 51, 52, 53, 54, 55, 56, 57, 97, 98, 99, 100, 101, 102]) (Int.tmod n_0 16) (IntKind.u64.wrap ((Int.tmod n_0 16) + 1))) ++ s_3)), (4, .int .i64 i_4)]) (.cons rfl (.cons rfl (.cons rfl (.nil _)))) ?_
   refine ke_inBlock ?_
   refine ke_region ?_
   refine sr_ev (v := .int .i64 i_4) (ev_move rfl) (by decide) ?_
   refine sr_ev (v := .int .i64 (IntKind.i64.wrap (i_4 + 1))) (ev_add rfl rfl) (by decide) ?_
   refine sr_ev (v := .int .i64 (IntKind.i64.wrap (i_4 + 1))) (ev_assign rfl) (by decide) ?_
   refine sr_end (l' := [(0, .int .u64 (IntKind.u64.wrap (n_0.tdiv 16))), (3, str ((cut ([48, 49, 50, 51, 52, 53, 54, 55, 56, 57, 97, 98, 99, 100, 101, 102]) (Int.tmod n_0 16) (IntKind.u64.wrap ((Int.tmod n_0 16) + 1))) ++ s_3)), (4, .int .i64 (IntKind.i64.wrap (i_4 + 1)))]) (.cons rfl (.cons rfl (.cons rfl (.nil _)))) ?_
   have hK := hr0 hS hb
   exact ke_weaken (l' := [(0, .int .u64 (IntKind.u64.wrap (n_0.tdiv 16))), (3, str ((cut ([48, 49, 50, 51, 52, 53, 54, 55, 56, 57, 97, 98, 99, 100, 101, 102]) (Int.tmod n_0 16) (IntKind.u64.wrap ((Int.tmod n_0 16) + 1))) ++ s_3)), (4, .int .i64 (IntKind.i64.wrap (i_4 + 1)))]) (.cons rfl (.cons rfl (.cons rfl (.nil _)))) hK
  ·replace hS := ite_false' hS hc1
   refine ke_exit (k' := _) rfl ?_
   refine ke_seq ?_
   refine ke_region ?_
   refine sr_ev (v := str s_3) (ev_move rfl) (by decide) ?_
   refine sr_ev (v := str s_3) (ev_assign rfl) (by decide) ?_
   refine sr_end (l' := [(2, str s_3)]) (.cons rfl (.nil _)) ?_
   cases hS
   exact ke_ret1 Tryz.func76 rfl rfl ⟨_, rfl, rfl, hb⟩
theorem ref03_Hex_ok (w0 : World) (hg : Gs w0) {n_0 : Int} {r : Str} (hS : ref03_Hex n_0 = some r) :
  Calls Tryz.prog 76 #[.int .u64 n_0] w0 (Ret (fun v w' => v = str r ∧ Below w0.heap.size w0 w')) := by
 unfold ref03_Hex at hS
 have hb := Below.refl w0.heap.size w0
 refine calls_of_ke Tryz.func76 rfl (n := 21) rfl rfl (l := [(0, .int .u64 n_0)]) rfl ?_
 refine ke_seq ?_
 refine ke_region ?_
 refine sr_ev (v := str ([])) (ev_assign rfl) (by decide) ?_
 refine sr_end (l' := [(0, .int .u64 n_0)]) (.cons rfl (.nil _)) ?_
 refine ke_seq ?_
 refine ke_region ?_
 refine sr_ev (v := str ([])) (ev_assign rfl) (by decide) ?_
 refine sr_end (l' := [(0, .int .u64 n_0), (3, str ([]))]) (.cons rfl (.cons rfl (.nil _))) ?_
 refine ke_seq ?_
 refine ke_seq ?_
 refine ke_region ?_
 refine sr_ev (v := .int .i64 0) (ev_assign rfl) (by decide) ?_
 refine sr_end (l' := [(0, .int .u64 n_0), (3, str ([])), (4, .int .i64 0)]) (.cons rfl (.cons rfl (.cons rfl (.nil _)))) ?_
 refine ke_block ?_
 have hK := ref03_Hex_L1_ok hg _ hS hb
 exact ke_weaken (l' := [(0, .int .u64 n_0), (3, str ([])), (4, .int .i64 0)]) (.cons rfl (.cons rfl (.cons rfl (.nil _)))) (ke_loop hK)
theorem ref03_Text_ok (w0 : World) (hg : Gs w0) {s_0 : Str} {r : Str} (hS : ref03_Text s_0 = some r) :
  Calls Tryz.prog 59 #[str s_0] w0 (Ret (fun v w' => v = str r ∧ Below w0.heap.size w0 w')) := by
 unfold ref03_Text at hS
 have hb := Below.refl w0.heap.size w0
 refine calls_of_ke Tryz.func59 rfl (n := 6) rfl rfl (l := [(0, str s_0)]) rfl ?_
 refine ke_seq ?_
 refine ke_region ?_
 refine sr_ev (v := str ([])) (ev_assign rfl) (by decide) ?_
 refine sr_end (l' := [(0, str s_0)]) (.cons rfl (.nil _)) ?_
 refine ke_seq ?_
 refine ke_region ?_
 refine sr_ev (v := str s_0) (ev_move rfl) (by decide) ?_
 obtain ⟨y1, hy2, hS⟩ := bind_some' hS
 refine sr_call (vs := [str s_0]) rfl Tryz.call77 rfl (ref03_Sum_ok _ (hg.below hb) hy2) (by decide) ?_
 rintro _ w3 ⟨rfl, hbw4⟩
 replace hb := hb.trans (hbw4.mono hb.size)
 obtain ⟨y5, hy6, hS⟩ := bind_some' hS
 refine sr_call (vs := [.int .u64 y1]) rfl Tryz.call76 rfl (ref03_Hex_ok _ (hg.below hb) hy6) (by decide) ?_
 rintro _ w7 ⟨rfl, hbw8⟩
 replace hb := hb.trans (hbw8.mono hb.size)
 refine sr_ev (v := str y5) (ev_assign rfl) (by decide) ?_
 refine sr_end (l' := [(2, str y5)]) (.cons rfl (.nil _)) ?_
 cases hS
 exact ke_ret1 Tryz.func59 rfl rfl ⟨_, rfl, rfl, hb⟩
theorem ref28_Unique_ok (w0 : World) (hg : Gs w0) {seed_0 : Str} {n_1 : Int} {r : Str} (hS : ref28_Unique seed_0 n_1 = some r) :
  Calls Tryz.prog 44 #[str seed_0, .int .i64 n_1] w0 (Ret (fun v w' => v = str r ∧ Below w0.heap.size w0 w')) := by
 unfold ref28_Unique at hS
 have hb := Below.refl w0.heap.size w0
 refine calls_of_ke Tryz.func44 rfl (n := 12) rfl rfl (l := [(0, str seed_0), (1, .int .i64 n_1)]) rfl ?_
 refine ke_seq ?_
 refine ke_region ?_
 refine sr_ev (v := str ([])) (ev_assign rfl) (by decide) ?_
 refine sr_end (l' := [(0, str seed_0), (1, .int .i64 n_1)]) (.cons rfl (.cons rfl (.nil _))) ?_
 refine ke_seq ?_
 refine ke_region ?_
 refine sr_ev (v := .int .i64 n_1) (ev_move rfl) (by decide) ?_
 obtain ⟨y1, hy2, hS⟩ := bind_some' hS
 refine sr_call (vs := [.int .i64 n_1]) rfl Tryz.call60 rfl (ref02_Int_ok _ (hg.below hb) hy2) (by decide) ?_
 rintro _ w3 ⟨rfl, hbw4⟩
 replace hb := hb.trans (hbw4.mono hb.size)
 obtain ⟨hk5, hS⟩ := chk_some hS
 refine sr_ev (v := str (y1 ++ ([58]))) (ev_cat rfl rfl hk5) (by decide) ?_
 refine sr_ev (v := str seed_0) (ev_move rfl) (by decide) ?_
 obtain ⟨hk6, hS⟩ := chk_some hS
 refine sr_ev (v := str ((y1 ++ ([58])) ++ seed_0)) (ev_cat rfl rfl hk6) (by decide) ?_
 obtain ⟨y7, hy8, hS⟩ := bind_some' hS
 refine sr_call (vs := [str ((y1 ++ ([58])) ++ seed_0)]) rfl Tryz.call59 rfl (ref03_Text_ok _ (hg.below hb) hy8) (by decide) ?_
 rintro _ w9 ⟨rfl, hbw10⟩
 replace hb := hb.trans (hbw10.mono hb.size)
 obtain ⟨hk11, hS⟩ := chk_some hS
 refine sr_ev (v := str (([117]) ++ y7)) (ev_cat rfl rfl hk11) (by decide) ?_
 refine sr_ev (v := str (([117]) ++ y7)) (ev_assign rfl) (by decide) ?_
 refine sr_end (l' := [(4, str (([117]) ++ y7))]) (.cons rfl (.nil _)) ?_
 cases hS
 exact ke_ret1 Tryz.func44 rfl rfl ⟨_, rfl, rfl, hb⟩
theorem ref37_Devices_Challenge_ok (w0 : World) (hg : Gs w0) {ρA : Tags} (hbd : ∀ b, ρA b ≠ 0 → b < w0.heap.size) (hz : Gz ρA) {o : Nat} (ho2 : 2 ≤ o) {d_0 : ref37_Devices} {user_1 : Str} {id_2 : Str} {now_3 : Int} {gd_0 : Nat} {r : Str × Int × ref37_Devices} (ho0 : ref37_Devices.O (fun p => o + p) ρA w0 gd_0 d_0) (hS : ref37_Devices_Challenge d_0 user_1 id_2 now_3 = some r) :
  Calls Tryz.prog 23 #[.pointer (some ⟨gd_0, 0, none⟩), str user_1, str id_2, .int .i64 now_3] w0 (Ret (fun v w' => ∃ ρ', v = .tuple #[str r.1, .int .i64 r.2.1] ∧ ref37_Devices.O (fun p => o + p) ρ' w' gd_0 r.2.2 ∧ Tr ρA w0 (rng o 2) ρ' w')) := by
 unfold ref37_Devices_Challenge at hS
 have hb := enter_fr (ρ := ρA) (w := w0) (n := 2) ho2 hbd
 have hz := hz.enter (n := 2) ho2
 obtain ⟨v1, hB3, h2⟩ := ho0
 replace hB3 := hB3.mv (enter_mv (p := 0) (n := 2) (by decide) ho2)
 replace h2 := h2.mv (enter_mv (p := 1) (n := 2) (by decide) ho2) (by decide)
 replace hB3 : Blk (enter ρA o 2) 100 w0 gd_0 (.cells #[v1, .int .i64 d_0.N] 55 (0, 0)) := hB3
 replace h2 : OwnT ref37_Device.c 70 (enter ρA o 2) 101 w0 v1 d_0.L := h2
 refine calls_of_ke Tryz.func23 rfl (n := 54) rfl rfl (l := [(0, .pointer (some ⟨gd_0, 0, none⟩)), (1, str user_1), (2, str id_2), (3, .int .i64 now_3)]) rfl ?_
 refine ke_seq ?_
 refine ke_region ?_
 refine sr_ev (v := str ([])) (ev_assign rfl) (by decide) ?_
 refine sr_ev (v := .int .i64 0) (ev_assign rfl) (by decide) ?_
 refine sr_end (l' := [(0, .pointer (some ⟨gd_0, 0, none⟩)), (1, str user_1), (2, str id_2), (3, .int .i64 now_3)]) (.cons rfl (.cons rfl (.cons rfl (.cons rfl (.nil _))))) ?_
 refine ke_seq ?_
 refine ke_region ?_
 refine sr_ev (v := .pointer (some ⟨gd_0, 0, none⟩)) (ev_move rfl) (by decide) ?_
 refine sr_ev (v := str user_1) (ev_move rfl) (by decide) ?_
 refine sr_ev (v := str id_2) (ev_move rfl) (by decide) ?_
 refine sr_ev (v := .int .i64 now_3) (ev_move rfl) (by decide) ?_
 obtain ⟨y4, hy5, hS⟩ := bind_some' hS
 refine sr_call (vs := [.pointer (some ⟨gd_0, 0, none⟩), str user_1, str id_2, .int .i64 now_3]) rfl Tryz.call43 rfl (ref37_Devices_ready_ok _ (hg.fr hz hb) (ρA := (enter ρA o 2)) hb.bd (hz.fr hg hb) (τ0 := (fun p => 100 + p)) (fun p => Nat.le_add_right_of_le (by decide)) (⟨_, hB3, h2⟩ : ref37_Devices.O (fun p => 100 + p) (enter ρA o 2) w0 gd_0 d_0) hy5) (by decide) ?_
 rintro _ w6 ⟨rfl, hbw7⟩
 have htr8 := Tr.of_below hbw7 hb.bd
 replace hB3 := hB3.mv (htr8.mv (i := 100) rfl)
 replace h2 := h2.mv (htr8.mv (i := 101) rfl) (by decide)
 replace hb := hb.trans htr8
 refine sr_ev (v := .tuple #[.int .i64 y4.1, .int .i64 y4.2]) (ev_move rfl) (by decide) ?_
 refine sr_ev (v := .int .i64 y4.1) (ev_extract rfl rfl) (by decide) ?_
 refine sr_ev (v := .int .i64 y4.2) (ev_extract rfl rfl) (by decide) ?_
 refine sr_ev (v := .int .i64 y4.1) (ev_assign rfl) (by decide) ?_
 refine sr_ev (v := .int .i64 y4.2) (ev_assign rfl) (by decide) ?_
 refine sr_end (l' := [(0, .pointer (some ⟨gd_0, 0, none⟩)), (1, str user_1), (2, str id_2), (10, .int .i64 y4.1), (11, .int .i64 y4.2)]) (.cons rfl (.cons rfl (.cons rfl (.cons rfl (.cons rfl (.nil _)))))) ?_
 refine ke_seq ?_
 refine ke_seq ?_
 refine ke_region ?_
 refine sr_ev (v := .int .i64 y4.2) (ev_move rfl) (by decide) ?_
 refine sr_ev (v := .bool (y4.2 != 0)) (ev_ne rfl rfl) (by decide) ?_
 refine sr_end (l' := [(0, .pointer (some ⟨gd_0, 0, none⟩)), (1, str user_1), (2, str id_2), (10, .int .i64 y4.1), (11, .int .i64 y4.2), (21, .bool (y4.2 != 0))]) (.cons rfl (.cons rfl (.cons rfl (.cons rfl (.cons rfl (.cons rfl (.nil _))))))) ?_
 refine ke_cond (t := y4.2 != 0) rfl (fun hc9 => ?_) (fun hc9 => ?_)
 ·replace hS := ite_true' hS hc9
  refine ke_seq ?_
  refine ke_region ?_
  refine sr_ev (v := .int .i64 y4.2) (ev_move rfl) (by decide) ?_
  refine sr_ev (v := str ([])) (ev_assign rfl) (by decide) ?_
  refine sr_ev (v := .int .i64 y4.2) (ev_assign rfl) (by decide) ?_
  refine sr_end (l' := [(8, str ([])), (9, .int .i64 y4.2)]) (.cons rfl (.cons rfl (.nil _))) ?_
  cases hS
  exact ke_ret2 Tryz.func23 rfl rfl rfl ⟨_, rfl, leave ρA w0 o 2 (enter ρA o 2), rfl, ⟨_, (hB3.mv (leave_mv (p := 0) (by decide) hb)), (h2.mv (leave_mv (p := 1) (by decide) hb) (Nat.ne_of_gt (Nat.lt_of_lt_of_le (Nat.lt_of_lt_of_le Nat.zero_lt_two ho2) (Nat.le_add_right _ _))))⟩, (leave_tr ho2 hb)⟩
 ·replace hS := ite_false' hS hc9
  refine ke_skip ?_
  refine ke_seq ?_
  refine ke_region ?_
  refine sr_ev (v := .pointer (some ⟨gd_0, 0, none⟩)) (ev_move rfl) (by decide) ?_
  refine sr_ev (v := .pointer (some ⟨gd_0, 0, none⟩)) (ev_nilCheck rfl) (by decide) ?_
  refine sr_ev (v := .pointer (some ⟨gd_0, 1, none⟩)) (ev_fieldAddr (i := 1) Tryz.underlying55 rfl Tryz.info3 rfl rfl) (by decide) ?_
  refine sr_ev (v := .int .i64 d_0.N) (ev_load Tryz.isAgg3 rfl (hB3.cell rfl)) (by decide) ?_
  refine sr_ev (v := .int .i64 (IntKind.i64.wrap (d_0.N + 1))) (ev_add rfl rfl) (by decide) ?_
  refine sr_ev (v := .pointer (some ⟨gd_0, 0, none⟩)) (ev_nilCheck rfl) (by decide) ?_
  refine sr_ev (v := .pointer (some ⟨gd_0, 1, none⟩)) (ev_fieldAddr (i := 1) Tryz.underlying55 rfl Tryz.info3 rfl rfl) (by decide) ?_
  refine sr_storeT (v := .int .i64 (IntKind.i64.wrap (d_0.N + 1))) (vs := [.int .i64 (IntKind.i64.wrap (d_0.N + 1))]) (cs' := #[v1, .int .i64 (IntKind.i64.wrap (d_0.N + 1))]) hB3 (by decide) hb.bd rfl rfl rfl Tryz.sizeOf3 rfl rfl rfl ?_
  intro w10 hB31 htr11
  replace h2 := h2.mv (htr11.mv (i := 101) rfl) (by decide)
  replace hb := hb.trans htr11
  replace hB3 : Blk (enter ρA o 2) 100 w10 gd_0 (.cells #[v1, .int .i64 (IntKind.i64.wrap (d_0.N + 1))] 55 (0, 0)) := hB31
  clear hB31
  refine sr_end (l' := [(0, .pointer (some ⟨gd_0, 0, none⟩)), (1, str user_1), (2, str id_2), (10, .int .i64 y4.1)]) (.cons rfl (.cons rfl (.cons rfl (.cons rfl (.nil _))))) ?_
  refine ke_seq ?_
  refine ke_region_j (ρ := (enter ρA o 2)) (fun t => ([101] : List Nat).contains t) 17 Tryz.mixed (fun w13 hw12 => ?_)
  have htr14 := Tr.of_below hw12 hb.bd
  replace hB3 := hB3.mv (htr14.mv (i := 100) rfl)
  replace h2 := h2.mv (htr14.mv (i := 101) rfl) (by decide)
  replace hb := hb.trans htr14
  refine dj_H 0 (v := .pointer (some ⟨gd_0, 0, none⟩)) (by kernel_rfl) (by kernel_rfl) rfl (fun _ _ _ h => h) (sj_refl hb.bd rfl rfl) (fun w1 ρ1 hw1 => ev_move rfl) (by decide) ?_
  refine dj_H 1 (v := .pointer (some ⟨gd_0, 0, none⟩)) (by kernel_rfl) (by kernel_rfl) rfl (fun _ _ _ h => h) (sj_refl hb.bd rfl rfl) (fun w1 ρ1 hw1 => ev_nilCheck rfl) (by decide) ?_
  refine dj_H 2 (v := .pointer (some ⟨gd_0, 0, none⟩)) (by kernel_rfl) (by kernel_rfl) rfl (fun _ _ _ h => h) (sj_refl hb.bd rfl rfl) (fun w1 ρ1 hw1 => ev_fieldAddr (i := 0) Tryz.underlying55 rfl Tryz.info53 rfl rfl) (by decide) ?_
  refine dj_H 3 (v := v1) (by kernel_rfl) (by kernel_rfl) rfl (fun _ _ _ h => h) (sj_refl hb.bd rfl rfl) (fun w1 ρ1 hw1 => ev_load Tryz.isAgg53 rfl ((hB3.mv (hw1.mv (i := 100) rfl)).cell rfl)) (by decide) ?_
  refine dj_H 4 (v := .int .i64 y4.1) (by kernel_rfl) (by kernel_rfl) rfl (fun _ _ _ h => h) (sj_refl hb.bd rfl rfl) (fun w1 ρ1 hw1 => ev_move rfl) (by decide) ?_
  refine dj_H 5 (v := str user_1) (by kernel_rfl) (by kernel_rfl) rfl (fun _ _ _ h => h) (sj_refl hb.bd rfl rfl) (fun w1 ρ1 hw1 => ev_move rfl) (by decide) ?_
  obtain ⟨hk56, hS⟩ := chk_some hS
  refine dj_H 6 (v := str (user_1 ++ ([124]))) (by kernel_rfl) (by kernel_rfl) rfl (fun _ _ _ h => h) (sj_refl hb.bd rfl rfl) (fun w1 ρ1 hw1 => ev_cat rfl rfl hk56) (by decide) ?_
  refine dj_H 7 (v := str id_2) (by kernel_rfl) (by kernel_rfl) rfl (fun _ _ _ h => h) (sj_refl hb.bd rfl rfl) (fun w1 ρ1 hw1 => ev_move rfl) (by decide) ?_
  obtain ⟨hk57, hS⟩ := chk_some hS
  refine dj_H 8 (v := str ((user_1 ++ ([124])) ++ id_2)) (by kernel_rfl) (by kernel_rfl) rfl (fun _ _ _ h => h) (sj_refl hb.bd rfl rfl) (fun w1 ρ1 hw1 => ev_cat rfl rfl hk57) (by decide) ?_
  refine dj_H 9 (v := .pointer (some ⟨gd_0, 0, none⟩)) (by kernel_rfl) (by kernel_rfl) rfl (fun _ _ _ h => h) (sj_refl hb.bd rfl rfl) (fun w1 ρ1 hw1 => ev_move rfl) (by decide) ?_
  refine dj_H 10 (v := .pointer (some ⟨gd_0, 0, none⟩)) (by kernel_rfl) (by kernel_rfl) rfl (fun _ _ _ h => h) (sj_refl hb.bd rfl rfl) (fun w1 ρ1 hw1 => ev_nilCheck rfl) (by decide) ?_
  refine dj_H 11 (v := .pointer (some ⟨gd_0, 1, none⟩)) (by kernel_rfl) (by kernel_rfl) rfl (fun _ _ _ h => h) (sj_refl hb.bd rfl rfl) (fun w1 ρ1 hw1 => ev_fieldAddr (i := 1) Tryz.underlying55 rfl Tryz.info3 rfl rfl) (by decide) ?_
  refine dj_H 12 (v := .int .i64 (IntKind.i64.wrap (d_0.N + 1))) (by kernel_rfl) (by kernel_rfl) rfl (fun _ _ _ h => h) (sj_refl hb.bd rfl rfl) (fun w1 ρ1 hw1 => ev_load Tryz.isAgg3 rfl ((hB3.mv (hw1.mv (i := 100) rfl)).cell rfl)) (by decide) ?_
  refine dj_E 13 (by kernel_rfl) rfl ?_
  have jt58 : Tr (enter ρA o 2) w13 (fun t => ([101] : List Nat).contains t) (enter ρA o 2) w13 := (Tr.refl hb.bd).weak (fun _ _ => rfl) rfl rfl
  obtain ⟨y59, hy60, hS⟩ := bind_some' hS
  refine sr_call (vs := [str ((user_1 ++ ([124])) ++ id_2), .int .i64 (IntKind.i64.wrap (d_0.N + 1))]) rfl Tryz.call44 rfl (ref28_Unique_ok _ (hg.fr hz hb) hy60) (by decide) ?_
  rintro _ w61 ⟨rfl, hbw62⟩
  have htr63 := Tr.of_below hbw62 hb.bd
  replace h2 := h2.mv (htr63.mv (i := 101) rfl) (by decide)
  replace hB3 := hB3.mv (htr63.mv (i := 100) rfl)
  replace hb := hb.trans htr63
  replace jt58 := (jt58.trans htr63).weak (J' := (fun t => ([101] : List Nat).contains t)) (by intro t h; simp [rng] at h ⊢ <;> omega) rfl rfl
  refine dj_next (l' := [(0, .pointer (some ⟨gd_0, 0, none⟩)), (10, .int .i64 y4.1), (33, v1), (34, .int .i64 y4.1), (43, str y59)]) rfl (.cons rfl (.cons rfl (.cons rfl (.cons rfl (.cons rfl (.nil _)))))) jt58 (by intro t h; simp [rng] at h ⊢ <;> omega) rfl rfl ?_
  obtain ⟨y64, hy65, hS⟩ := bind_some' hS
  obtain ⟨b66, o67, cs69, hq70, he68, hg71, ho72⟩ := h2.elemQ (P := Tryz.prog) Tryz.underlying53 Tryz.info70 rfl hy65
  obtain rfl : cs69 = [str y64.User, str y64.ID, str y64.Secret, str y64.Challenge, .int .i64 y64.Until] := he68.rd
  refine dj_H 14 (v := .pointer (some ⟨b66, o67, none⟩)) (by kernel_rfl) (by kernel_rfl) rfl (fun _ _ _ h => h) (sj_refl hb.bd rfl rfl) (fun w1 ρ1 hw1 => hq70 w1 rfl rfl) (by decide) ?_
  refine dj_H 15 (v := .pointer (some ⟨b66, o67 + 3, none⟩)) (by kernel_rfl) (by kernel_rfl) rfl (fun _ _ _ h => h) (sj_refl hb.bd rfl rfl) (fun w1 ρ1 hw1 => ev_fieldAddr (i := 3) Tryz.underlying70 rfl Tryz.info9 rfl rfl) (by decide) ?_
  refine dj_E 16 (by kernel_rfl) rfl ?_
  have jt73 : Tr (enter ρA o 2) w61 (fun t => ([101] : List Nat).contains t) (enter ρA o 2) w61 := (Tr.refl hb.bd).weak (fun _ _ => rfl) rfl rfl
  refine sr_storeEl (z' := (ref37_Device.mk y64.User y64.ID y64.Secret y59 y64.Until)) (u := str y59) (vs := [str y59]) (cs' := [str y64.User, str y64.ID, str y64.Secret, str y59, .int .i64 y64.Until]) (off := 3) h2 hg71 ho72 hy65 he68 (by decide) hb.bd rfl rfl rfl Tryz.sizeOf9 rfl rfl rfl rfl ?_
  intro w74 h21 htr75
  replace hB3 := hB3.mv (htr75.mv (i := 100) rfl)
  replace hb := hb.trans htr75
  replace jt73 := (jt73.trans htr75).weak (J' := (fun t => ([101] : List Nat).contains t)) (by intro t h; simp [rng] at h ⊢ <;> omega) rfl rfl
  replace h2 := h21
  clear h21
  refine dj_next (l' := [(0, .pointer (some ⟨gd_0, 0, none⟩)), (10, .int .i64 y4.1)]) rfl (.cons rfl (.cons rfl (.nil _))) jt73 (by intro t h; simp [rng] at h ⊢ <;> omega) rfl rfl ?_
  refine dj_done rfl (by kernel_rfl) ?_
  refine ke_weaken (l' := [(0, .pointer (some ⟨gd_0, 0, none⟩)), (10, .int .i64 y4.1)]) (.cons rfl (.cons rfl (.nil _))) ?_
  refine ke_seq ?_
  refine ke_region ?_
  refine sr_ev (v := .pointer (some ⟨gd_0, 0, none⟩)) (ev_move rfl) (by decide) ?_
  refine sr_ev (v := .pointer (some ⟨gd_0, 0, none⟩)) (ev_nilCheck rfl) (by decide) ?_
  refine sr_ev (v := .pointer (some ⟨gd_0, 0, none⟩)) (ev_fieldAddr (i := 0) Tryz.underlying55 rfl Tryz.info53 rfl rfl) (by decide) ?_
  refine sr_ev (v := v1) (ev_load Tryz.isAgg53 rfl (hB3.cell rfl)) (by decide) ?_
  refine sr_ev (v := .int .i64 y4.1) (ev_move rfl) (by decide) ?_
  obtain ⟨y76, hy77, hS⟩ := bind_some' hS
  obtain ⟨b78, o79, cs81, hq82, he80, hg83, ho84⟩ := h2.elemQ (P := Tryz.prog) Tryz.underlying53 Tryz.info70 rfl hy77
  obtain rfl : cs81 = [str y76.User, str y76.ID, str y76.Secret, str y76.Challenge, .int .i64 y76.Until] := he80.rd
  refine sr_ev (v := .pointer (some ⟨b78, o79, none⟩)) (hq82 w74 rfl rfl) (by decide) ?_
  refine sr_ev (v := .pointer (some ⟨b78, o79 + 3, none⟩)) (ev_fieldAddr (i := 3) Tryz.underlying70 rfl Tryz.info9 rfl rfl) (by decide) ?_
  refine sr_ev (v := str y76.Challenge) (ev_load Tryz.isAgg9 rfl (he80.cell 3 _ rfl)) (by decide) ?_
  refine sr_ev (v := str y76.Challenge) (ev_assign rfl) (by decide) ?_
  refine sr_ev (v := .int .i64 0) (ev_assign rfl) (by decide) ?_
  refine sr_end (l' := [(8, str y76.Challenge), (9, .int .i64 0)]) (.cons rfl (.cons rfl (.nil _))) ?_
  cases hS
  exact ke_ret2 Tryz.func23 rfl rfl rfl ⟨_, rfl, leave ρA w0 o 2 (enter ρA o 2), rfl, ⟨_, (hB3.mv (leave_mv (p := 0) (by decide) hb)), (h2.mv (leave_mv (p := 1) (by decide) hb) (Nat.ne_of_gt (Nat.lt_of_lt_of_le (Nat.lt_of_lt_of_le Nat.zero_lt_two ho2) (Nat.le_add_right _ _))))⟩, (leave_tr ho2 hb)⟩
theorem ref03_decimal_ok : ∀ (n : Nat) (w0 : World) (hg : Gs w0) {n_0 : Int} {r : Str} (hS : ref03_decimal n n_0 = some r),
  Calls Tryz.prog 61 #[.int .i64 n_0] w0 (Ret (fun v w' => v = str r ∧ Below w0.heap.size w0 w')) := by
 intro n
 induction n with
 | zero => intro w0 hg n_0 r hS; cases hS
 | succ n ih =>
  intro w0 hg n_0 r hS
  unfold ref03_decimal at hS
  have hb := Below.refl w0.heap.size w0
  refine calls_of_ke Tryz.func61 rfl (n := 16) rfl rfl (l := [(0, .int .i64 n_0)]) rfl ?_
  refine ke_seq ?_
  refine ke_region ?_
  refine sr_ev (v := str ([])) (ev_assign rfl) (by decide) ?_
  refine sr_end (l' := [(0, .int .i64 n_0)]) (.cons rfl (.nil _)) ?_
  refine ke_seq ?_
  refine ke_seq ?_
  refine ke_region ?_
  refine sr_ev (v := .int .i64 n_0) (ev_move rfl) (by decide) ?_
  refine sr_ev (v := .bool (decide (n_0 < 10))) (ev_lt rfl rfl) (by decide) ?_
  refine sr_end (l' := [(0, .int .i64 n_0), (4, .bool (decide (n_0 < 10)))]) (.cons rfl (.cons rfl (.nil _))) ?_
  refine ke_cond (t := decide (n_0 < 10)) rfl (fun hc1 => ?_) (fun hc1 => ?_)
  ·replace hS := ite_true' hS hc1
   refine ke_seq ?_
   refine ke_region ?_
   refine sr_ev (v := .int .i64 n_0) (ev_move rfl) (by decide) ?_
   refine sr_ev (v := .int .i64 n_0) (ev_move rfl) (by decide) ?_
   refine sr_ev (v := .int .i64 (IntKind.i64.wrap (n_0 + 1))) (ev_add rfl rfl) (by decide) ?_
   obtain ⟨hk2, hS⟩ := chk_some hS
   refine sr_ev (v := str (cut ([48, 49, 50, 51, 52, 53, 54, 55, 56, 57]) n_0 (IntKind.i64.wrap (n_0 + 1)))) (ev_sslice Tryz.underlying9 rfl rfl rfl hk2) (by decide) ?_
   refine sr_ev (v := str (cut ([48, 49, 50, 51, 52, 53, 54, 55, 56, 57]) n_0 (IntKind.i64.wrap (n_0 + 1)))) (ev_assign rfl) (by decide) ?_
   refine sr_end (l' := [(2, str (cut ([48, 49, 50, 51, 52, 53, 54, 55, 56, 57]) n_0 (IntKind.i64.wrap (n_0 + 1))))]) (.cons rfl (.nil _)) ?_
   cases hS
   exact ke_ret1 Tryz.func61 rfl rfl ⟨_, rfl, rfl, hb⟩
  ·replace hS := ite_false' hS hc1
   refine ke_skip ?_
   refine ke_seq ?_
   refine ke_region ?_
   refine sr_ev (v := .int .i64 n_0) (ev_move rfl) (by decide) ?_
   refine sr_ev (v := .int .i64 (IntKind.i64.wrap (n_0.tdiv 10))) (ev_quo rfl rfl (by decide)) (by decide) ?_
   obtain ⟨y3, hy4, hS⟩ := bind_some' hS
   refine sr_call (vs := [.int .i64 (IntKind.i64.wrap (n_0.tdiv 10))]) rfl Tryz.call61 rfl (ih _ (hg.below hb) hy4) (by decide) ?_
   rintro _ w5 ⟨rfl, hbw6⟩
   replace hb := hb.trans (hbw6.mono hb.size)
   refine sr_ev (v := .int .i64 n_0) (ev_move rfl) (by decide) ?_
   refine sr_ev (v := .int .i64 (Int.tmod n_0 10)) (ev_rem rfl rfl (by decide)) (by decide) ?_
   obtain ⟨y7, hy8, hS⟩ := bind_some' hS
   refine sr_call (vs := [.int .i64 (Int.tmod n_0 10)]) rfl Tryz.call61 rfl (ih _ (hg.below hb) hy8) (by decide) ?_
   rintro _ w9 ⟨rfl, hbw10⟩
   replace hb := hb.trans (hbw10.mono hb.size)
   obtain ⟨hk11, hS⟩ := chk_some hS
   refine sr_ev (v := str (y3 ++ y7)) (ev_cat rfl rfl hk11) (by decide) ?_
   refine sr_ev (v := str (y3 ++ y7)) (ev_assign rfl) (by decide) ?_
   refine sr_end (l' := [(2, str (y3 ++ y7))]) (.cons rfl (.nil _)) ?_
   cases hS
   exact ke_ret1 Tryz.func61 rfl rfl ⟨_, rfl, rfl, hb⟩
theorem ref03_Mac_ok (w0 : World) (hg : Gs w0) {key_0 : Str} {s_1 : Str} {r : Str} (hS : ref03_Mac key_0 s_1 = some r) :
  Calls Tryz.prog 45 #[str key_0, str s_1] w0 (Ret (fun v w' => v = str r ∧ Below w0.heap.size w0 w')) := by
 unfold ref03_Mac at hS
 have hb := Below.refl w0.heap.size w0
 refine calls_of_ke Tryz.func45 rfl (n := 19) rfl rfl (l := [(0, str key_0), (1, str s_1)]) rfl ?_
 refine ke_seq ?_
 refine ke_region ?_
 refine sr_ev (v := str ([])) (ev_assign rfl) (by decide) ?_
 refine sr_end (l' := [(0, str key_0), (1, str s_1)]) (.cons rfl (.cons rfl (.nil _))) ?_
 refine ke_seq ?_
 refine ke_region ?_
 refine sr_ev (v := str key_0) (ev_move rfl) (by decide) ?_
 refine sr_ev (v := .int .i64 (key_0.length : Int)) (ev_slen Tryz.underlying9 rfl) (by decide) ?_
 obtain ⟨y1, hy2, hS⟩ := bind_some' hS
 refine sr_call (vs := [.int .i64 (key_0.length : Int)]) rfl Tryz.call61 rfl (ref03_decimal_ok fuel _ (hg.below hb) hy2) (by decide) ?_
 rintro _ w3 ⟨rfl, hbw4⟩
 replace hb := hb.trans (hbw4.mono hb.size)
 obtain ⟨hk5, hS⟩ := chk_some hS
 refine sr_ev (v := str (y1 ++ ([58]))) (ev_cat rfl rfl hk5) (by decide) ?_
 refine sr_ev (v := str key_0) (ev_move rfl) (by decide) ?_
 obtain ⟨hk6, hS⟩ := chk_some hS
 refine sr_ev (v := str ((y1 ++ ([58])) ++ key_0)) (ev_cat rfl rfl hk6) (by decide) ?_
 refine sr_ev (v := str ((y1 ++ ([58])) ++ key_0)) (ev_assign rfl) (by decide) ?_
 refine sr_end (l' := [(1, str s_1), (5, str ((y1 ++ ([58])) ++ key_0))]) (.cons rfl (.cons rfl (.nil _))) ?_
 refine ke_seq ?_
 refine ke_region ?_
 refine sr_ev (v := str ((y1 ++ ([58])) ++ key_0)) (ev_move rfl) (by decide) ?_
 refine sr_ev (v := str ((y1 ++ ([58])) ++ key_0)) (ev_move rfl) (by decide) ?_
 refine sr_ev (v := str s_1) (ev_move rfl) (by decide) ?_
 obtain ⟨hk7, hS⟩ := chk_some hS
 refine sr_ev (v := str (((y1 ++ ([58])) ++ key_0) ++ s_1)) (ev_cat rfl rfl hk7) (by decide) ?_
 obtain ⟨y8, hy9, hS⟩ := bind_some' hS
 refine sr_call (vs := [str (((y1 ++ ([58])) ++ key_0) ++ s_1)]) rfl Tryz.call59 rfl (ref03_Text_ok _ (hg.below hb) hy9) (by decide) ?_
 rintro _ w10 ⟨rfl, hbw11⟩
 replace hb := hb.trans (hbw11.mono hb.size)
 obtain ⟨hk12, hS⟩ := chk_some hS
 refine sr_ev (v := str (((y1 ++ ([58])) ++ key_0) ++ y8)) (ev_cat rfl rfl hk12) (by decide) ?_
 obtain ⟨y13, hy14, hS⟩ := bind_some' hS
 refine sr_call (vs := [str (((y1 ++ ([58])) ++ key_0) ++ y8)]) rfl Tryz.call59 rfl (ref03_Text_ok _ (hg.below hb) hy14) (by decide) ?_
 rintro _ w15 ⟨rfl, hbw16⟩
 replace hb := hb.trans (hbw16.mono hb.size)
 refine sr_ev (v := str y13) (ev_assign rfl) (by decide) ?_
 refine sr_end (l' := [(4, str y13)]) (.cons rfl (.nil _)) ?_
 cases hS
 exact ke_ret1 Tryz.func45 rfl rfl ⟨_, rfl, rfl, hb⟩
theorem ref37_Answer_ok (w0 : World) (hg : Gs w0) {secret_0 : Str} {challenge_1 : Str} {r : Str} (hS : ref37_Answer secret_0 challenge_1 = some r) :
  Calls Tryz.prog 25 #[str secret_0, str challenge_1] w0 (Ret (fun v w' => v = str r ∧ Below w0.heap.size w0 w')) := by
 unfold ref37_Answer at hS
 have hb := Below.refl w0.heap.size w0
 refine calls_of_ke Tryz.func25 rfl (n := 8) rfl rfl (l := [(0, str secret_0), (1, str challenge_1)]) rfl ?_
 refine ke_seq ?_
 refine ke_region ?_
 refine sr_ev (v := str ([])) (ev_assign rfl) (by decide) ?_
 refine sr_end (l' := [(0, str secret_0), (1, str challenge_1)]) (.cons rfl (.cons rfl (.nil _))) ?_
 refine ke_seq ?_
 refine ke_region ?_
 refine sr_ev (v := str secret_0) (ev_move rfl) (by decide) ?_
 refine sr_ev (v := str challenge_1) (ev_move rfl) (by decide) ?_
 obtain ⟨y1, hy2, hS⟩ := bind_some' hS
 refine sr_call (vs := [str secret_0, str challenge_1]) rfl Tryz.call45 rfl (ref03_Mac_ok _ (hg.below hb) hy2) (by decide) ?_
 rintro _ w3 ⟨rfl, hbw4⟩
 replace hb := hb.trans (hbw4.mono hb.size)
 refine sr_ev (v := str y1) (ev_assign rfl) (by decide) ?_
 refine sr_end (l' := [(4, str y1)]) (.cons rfl (.nil _)) ?_
 cases hS
 exact ke_ret1 Tryz.func25 rfl rfl ⟨_, rfl, rfl, hb⟩
theorem ref37_Devices_Prove_ok (w0 : World) (hg : Gs w0) {ρA : Tags} (hbd : ∀ b, ρA b ≠ 0 → b < w0.heap.size) (hz : Gz ρA) {o : Nat} (ho2 : 2 ≤ o) {d_0 : ref37_Devices} {user_1 : Str} {id_2 : Str} {answer_3 : Str} {now_4 : Int} {gd_0 : Nat} {r : Int × ref37_Devices} (ho0 : ref37_Devices.O (fun p => o + p) ρA w0 gd_0 d_0) (hS : ref37_Devices_Prove d_0 user_1 id_2 answer_3 now_4 = some r) :
  Calls Tryz.prog 24 #[.pointer (some ⟨gd_0, 0, none⟩), str user_1, str id_2, str answer_3, .int .i64 now_4] w0 (Ret (fun v w' => ∃ ρ', v = .int .i64 r.1 ∧ ref37_Devices.O (fun p => o + p) ρ' w' gd_0 r.2 ∧ Tr ρA w0 (rng o 2) ρ' w')) := by
 unfold ref37_Devices_Prove at hS
 have hb := enter_fr (ρ := ρA) (w := w0) (n := 2) ho2 hbd
 have hz := hz.enter (n := 2) ho2
 obtain ⟨v1, hB3, h2⟩ := ho0
 replace hB3 := hB3.mv (enter_mv (p := 0) (n := 2) (by decide) ho2)
 replace h2 := h2.mv (enter_mv (p := 1) (n := 2) (by decide) ho2) (by decide)
 replace hB3 : Blk (enter ρA o 2) 100 w0 gd_0 (.cells #[v1, .int .i64 d_0.N] 55 (0, 0)) := hB3
 replace h2 : OwnT ref37_Device.c 70 (enter ρA o 2) 101 w0 v1 d_0.L := h2
 refine calls_of_ke Tryz.func24 rfl (n := 61) rfl rfl (l := [(0, .pointer (some ⟨gd_0, 0, none⟩)), (1, str user_1), (2, str id_2), (3, str answer_3), (4, .int .i64 now_4)]) rfl ?_
 refine ke_seq ?_
 refine ke_region ?_
 refine sr_ev (v := .int .i64 0) (ev_assign rfl) (by decide) ?_
 refine sr_end (l' := [(0, .pointer (some ⟨gd_0, 0, none⟩)), (1, str user_1), (2, str id_2), (3, str answer_3), (4, .int .i64 now_4)]) (.cons rfl (.cons rfl (.cons rfl (.cons rfl (.cons rfl (.nil _)))))) ?_
 refine ke_seq ?_
 refine ke_region ?_
 refine sr_ev (v := .pointer (some ⟨gd_0, 0, none⟩)) (ev_move rfl) (by decide) ?_
 refine sr_ev (v := str user_1) (ev_move rfl) (by decide) ?_
 refine sr_ev (v := str id_2) (ev_move rfl) (by decide) ?_
 refine sr_ev (v := .int .i64 now_4) (ev_move rfl) (by decide) ?_
 obtain ⟨y4, hy5, hS⟩ := bind_some' hS
 refine sr_call (vs := [.pointer (some ⟨gd_0, 0, none⟩), str user_1, str id_2, .int .i64 now_4]) rfl Tryz.call43 rfl (ref37_Devices_ready_ok _ (hg.fr hz hb) (ρA := (enter ρA o 2)) hb.bd (hz.fr hg hb) (τ0 := (fun p => 100 + p)) (fun p => Nat.le_add_right_of_le (by decide)) (⟨_, hB3, h2⟩ : ref37_Devices.O (fun p => 100 + p) (enter ρA o 2) w0 gd_0 d_0) hy5) (by decide) ?_
 rintro _ w6 ⟨rfl, hbw7⟩
 have htr8 := Tr.of_below hbw7 hb.bd
 replace hB3 := hB3.mv (htr8.mv (i := 100) rfl)
 replace h2 := h2.mv (htr8.mv (i := 101) rfl) (by decide)
 replace hb := hb.trans htr8
 refine sr_ev (v := .tuple #[.int .i64 y4.1, .int .i64 y4.2]) (ev_move rfl) (by decide) ?_
 refine sr_ev (v := .int .i64 y4.1) (ev_extract rfl rfl) (by decide) ?_
 refine sr_ev (v := .int .i64 y4.2) (ev_extract rfl rfl) (by decide) ?_
 refine sr_ev (v := .int .i64 y4.1) (ev_assign rfl) (by decide) ?_
 refine sr_ev (v := .int .i64 y4.2) (ev_assign rfl) (by decide) ?_
 refine sr_end (l' := [(0, .pointer (some ⟨gd_0, 0, none⟩)), (3, str answer_3), (11, .int .i64 y4.1), (12, .int .i64 y4.2)]) (.cons rfl (.cons rfl (.cons rfl (.cons rfl (.nil _))))) ?_
 refine ke_seq ?_
 refine ke_seq ?_
 refine ke_region ?_
 refine sr_ev (v := .int .i64 y4.2) (ev_move rfl) (by decide) ?_
 refine sr_ev (v := .bool (y4.2 != 0)) (ev_ne rfl rfl) (by decide) ?_
 refine sr_end (l' := [(0, .pointer (some ⟨gd_0, 0, none⟩)), (3, str answer_3), (11, .int .i64 y4.1), (12, .int .i64 y4.2), (23, .bool (y4.2 != 0))]) (.cons rfl (.cons rfl (.cons rfl (.cons rfl (.cons rfl (.nil _)))))) ?_
 refine ke_cond (t := y4.2 != 0) rfl (fun hc9 => ?_) (fun hc9 => ?_)
 ·replace hS := ite_true' hS hc9
  refine ke_seq ?_
  refine ke_region ?_
  refine sr_ev (v := .int .i64 y4.2) (ev_move rfl) (by decide) ?_
  refine sr_ev (v := .int .i64 y4.2) (ev_assign rfl) (by decide) ?_
  refine sr_end (l' := [(10, .int .i64 y4.2)]) (.cons rfl (.nil _)) ?_
  cases hS
  exact ke_ret1 Tryz.func24 rfl rfl ⟨_, rfl, leave ρA w0 o 2 (enter ρA o 2), rfl, ⟨_, (hB3.mv (leave_mv (p := 0) (by decide) hb)), (h2.mv (leave_mv (p := 1) (by decide) hb) (Nat.ne_of_gt (Nat.lt_of_lt_of_le (Nat.lt_of_lt_of_le Nat.zero_lt_two ho2) (Nat.le_add_right _ _))))⟩, (leave_tr ho2 hb)⟩
 ·replace hS := ite_false' hS hc9
  refine ke_skip ?_
  refine ke_seq ?_
  refine ke_seq ?_
  refine ke_region ?_
  refine sr_ev (v := .pointer (some ⟨gd_0, 0, none⟩)) (ev_move rfl) (by decide) ?_
  refine sr_ev (v := .pointer (some ⟨gd_0, 0, none⟩)) (ev_nilCheck rfl) (by decide) ?_
  refine sr_ev (v := .pointer (some ⟨gd_0, 0, none⟩)) (ev_fieldAddr (i := 0) Tryz.underlying55 rfl Tryz.info53 rfl rfl) (by decide) ?_
  refine sr_ev (v := v1) (ev_load Tryz.isAgg53 rfl (hB3.cell rfl)) (by decide) ?_
  refine sr_ev (v := .int .i64 y4.1) (ev_move rfl) (by decide) ?_
  obtain ⟨y10, hy11, hS⟩ := bind_some' hS
  obtain ⟨b12, o13, cs15, hq16, he14, hg17, ho18⟩ := h2.elemQ (P := Tryz.prog) Tryz.underlying53 Tryz.info70 rfl hy11
  obtain rfl : cs15 = [str y10.User, str y10.ID, str y10.Secret, str y10.Challenge, .int .i64 y10.Until] := he14.rd
  refine sr_ev (v := .pointer (some ⟨b12, o13, none⟩)) (hq16 w6 rfl rfl) (by decide) ?_
  refine sr_ev (v := .pointer (some ⟨b12, o13 + 3, none⟩)) (ev_fieldAddr (i := 3) Tryz.underlying70 rfl Tryz.info9 rfl rfl) (by decide) ?_
  refine sr_ev (v := str y10.Challenge) (ev_load Tryz.isAgg9 rfl (he14.cell 3 _ rfl)) (by decide) ?_
  refine sr_ev (v := .bool (y10.Challenge == ([]))) (ev_seq rfl rfl) (by decide) ?_
  refine sr_end (l' := [(0, .pointer (some ⟨gd_0, 0, none⟩)), (3, str answer_3), (11, .int .i64 y4.1), (33, .bool (y10.Challenge == ([])))]) (.cons rfl (.cons rfl (.cons rfl (.cons rfl (.nil _))))) ?_
  refine ke_cond (t := y10.Challenge == ([])) rfl (fun hc19 => ?_) (fun hc19 => ?_)
  ·replace hS := ite_true' hS hc19
   refine ke_seq ?_
   refine ke_region ?_
   refine sr_ev (v := .int .i64 12) (ev_assign rfl) (by decide) ?_
   refine sr_end (l' := [(10, .int .i64 12)]) (.cons rfl (.nil _)) ?_
   cases hS
   exact ke_ret1 Tryz.func24 rfl rfl ⟨_, rfl, leave ρA w0 o 2 (enter ρA o 2), rfl, ⟨_, (hB3.mv (leave_mv (p := 0) (by decide) hb)), (h2.mv (leave_mv (p := 1) (by decide) hb) (Nat.ne_of_gt (Nat.lt_of_lt_of_le (Nat.lt_of_lt_of_le Nat.zero_lt_two ho2) (Nat.le_add_right _ _))))⟩, (leave_tr ho2 hb)⟩
  ·replace hS := ite_false' hS hc19
   refine ke_skip ?_
   refine ke_seq ?_
   refine ke_region_q Tryz.mixed (by kernel_rfl) ?_
   refine sq_ev (v := .pointer (some ⟨gd_0, 0, none⟩)) (fun w1 hw1 => ev_move rfl) (by decide) ?_
   refine sq_ev (v := .pointer (some ⟨gd_0, 0, none⟩)) (fun w1 hw1 => ev_nilCheck rfl) (by decide) ?_
   refine sq_ev (v := .pointer (some ⟨gd_0, 0, none⟩)) (fun w1 hw1 => ev_fieldAddr (i := 0) Tryz.underlying55 rfl Tryz.info53 rfl rfl) (by decide) ?_
   refine sq_ev (v := v1) (fun w1 hw1 => ev_load Tryz.isAgg53 rfl ((hB3.mv (Mv.of_below (i := 100) (ρ := (enter ρA o 2)) hw1)).cell rfl)) (by decide) ?_
   refine sq_ev (v := .int .i64 y4.1) (fun w1 hw1 => ev_move rfl) (by decide) ?_
   obtain ⟨y22, hy23, hS⟩ := bind_some' hS
   obtain ⟨b24, o25, cs27, hq28, he26, hg29, ho30⟩ := h2.elemQ (P := Tryz.prog) Tryz.underlying53 Tryz.info70 rfl hy23
   obtain rfl : cs27 = [str y22.User, str y22.ID, str y22.Secret, str y22.Challenge, .int .i64 y22.Until] := he26.rd
   refine sq_ev (v := .pointer (some ⟨b24, o25, none⟩)) (fun w1 hw1 => hq28 w1 rfl rfl) (by decide) ?_
   refine sq_ev (v := .pointer (some ⟨b24, o25 + 2, none⟩)) (fun w1 hw1 => ev_fieldAddr (i := 2) Tryz.underlying70 rfl Tryz.info9 rfl rfl) (by decide) ?_
   refine sq_ev (v := str y22.Secret) (fun w1 hw1 => ev_load Tryz.isAgg9 rfl ((he26.mv (Mv.of_below (i := 101) (ρ := (enter ρA o 2)) hw1) (Nat.succ_pos _)).cell 2 _ rfl)) (by decide) ?_
   refine sq_ev (v := .pointer (some ⟨gd_0, 0, none⟩)) (fun w1 hw1 => ev_move rfl) (by decide) ?_
   refine sq_ev (v := .pointer (some ⟨gd_0, 0, none⟩)) (fun w1 hw1 => ev_nilCheck rfl) (by decide) ?_
   refine sq_ev (v := .pointer (some ⟨gd_0, 0, none⟩)) (fun w1 hw1 => ev_fieldAddr (i := 0) Tryz.underlying55 rfl Tryz.info53 rfl rfl) (by decide) ?_
   refine sq_ev (v := v1) (fun w1 hw1 => ev_load Tryz.isAgg53 rfl ((hB3.mv (Mv.of_below (i := 100) (ρ := (enter ρA o 2)) hw1)).cell rfl)) (by decide) ?_
   refine sq_ev (v := .int .i64 y4.1) (fun w1 hw1 => ev_move rfl) (by decide) ?_
   obtain ⟨y31, hy32, hS⟩ := bind_some' hS
   obtain ⟨b33, o34, cs36, hq37, he35, hg38, ho39⟩ := h2.elemQ (P := Tryz.prog) Tryz.underlying53 Tryz.info70 rfl hy32
   obtain rfl : cs36 = [str y31.User, str y31.ID, str y31.Secret, str y31.Challenge, .int .i64 y31.Until] := he35.rd
   refine sq_ev (v := .pointer (some ⟨b33, o34, none⟩)) (fun w1 hw1 => hq37 w1 rfl rfl) (by decide) ?_
   refine sq_ev (v := .pointer (some ⟨b33, o34 + 3, none⟩)) (fun w1 hw1 => ev_fieldAddr (i := 3) Tryz.underlying70 rfl Tryz.info9 rfl rfl) (by decide) ?_
   refine sq_ev (v := str y31.Challenge) (fun w1 hw1 => ev_load Tryz.isAgg9 rfl ((he35.mv (Mv.of_below (i := 101) (ρ := (enter ρA o 2)) hw1) (Nat.succ_pos _)).cell 3 _ rfl)) (by decide) ?_
   obtain ⟨y40, hy41, hS⟩ := bind_some' hS
   refine sq_call (v := str y40) (vs := [str y22.Secret, str y31.Challenge]) rfl Tryz.call25 rfl (fun w1 hw1 => (ref37_Answer_ok _ ((hg.fr hz hb).below hw1) hy41)) (by decide) ?_
   refine sq_ev (v := str y40) (fun w1 hw1 => ev_assign rfl) (by decide) ?_
   refine sq_end (l' := [(0, .pointer (some ⟨gd_0, 0, none⟩)), (3, str answer_3), (11, .int .i64 y4.1), (13, str y40)]) (.cons rfl (.cons rfl (.cons rfl (.cons rfl (.nil _))))) (fun w21 hw20 => ?_)
   have htr45 := Tr.of_below hw20 hb.bd
   replace hB3 := hB3.mv (htr45.mv (i := 100) rfl)
   replace h2 := h2.mv (htr45.mv (i := 101) rfl) (by decide)
   replace hb := hb.trans htr45
   refine ke_seq ?_
   refine ke_region ?_
   refine sr_ev (v := .pointer (some ⟨gd_0, 0, none⟩)) (ev_move rfl) (by decide) ?_
   refine sr_ev (v := .pointer (some ⟨gd_0, 0, none⟩)) (ev_nilCheck rfl) (by decide) ?_
   refine sr_ev (v := .pointer (some ⟨gd_0, 0, none⟩)) (ev_fieldAddr (i := 0) Tryz.underlying55 rfl Tryz.info53 rfl rfl) (by decide) ?_
   refine sr_ev (v := v1) (ev_load Tryz.isAgg53 rfl (hB3.cell rfl)) (by decide) ?_
   refine sr_ev (v := .int .i64 y4.1) (ev_move rfl) (by decide) ?_
   obtain ⟨y46, hy47, hS⟩ := bind_some' hS
   obtain ⟨b48, o49, cs51, hq52, he50, hg53, ho54⟩ := h2.elemQ (P := Tryz.prog) Tryz.underlying53 Tryz.info70 rfl hy47
   obtain rfl : cs51 = [str y46.User, str y46.ID, str y46.Secret, str y46.Challenge, .int .i64 y46.Until] := he50.rd
   refine sr_ev (v := .pointer (some ⟨b48, o49, none⟩)) (hq52 w21 rfl rfl) (by decide) ?_
   refine sr_ev (v := .pointer (some ⟨b48, o49 + 3, none⟩)) (ev_fieldAddr (i := 3) Tryz.underlying70 rfl Tryz.info9 rfl rfl) (by decide) ?_
   refine sr_storeEl (z' := (ref37_Device.mk y46.User y46.ID y46.Secret ([]) y46.Until)) (u := str ([])) (vs := [str ([])]) (cs' := [str y46.User, str y46.ID, str y46.Secret, str ([]), .int .i64 y46.Until]) (off := 3) h2 hg53 ho54 hy47 he50 (by decide) hb.bd rfl rfl rfl Tryz.sizeOf9 rfl rfl rfl rfl ?_
   intro w55 h21 htr56
   replace hB3 := hB3.mv (htr56.mv (i := 100) rfl)
   replace hb := hb.trans htr56
   replace h2 := h21
   clear h21
   refine sr_end (l' := [(3, str answer_3), (13, str y40)]) (.cons rfl (.cons rfl (.nil _))) ?_
   refine ke_seq ?_
   refine ke_seq ?_
   refine ke_region ?_
   refine sr_ev (v := str y40) (ev_move rfl) (by decide) ?_
   refine sr_ev (v := str answer_3) (ev_move rfl) (by decide) ?_
   refine sr_ev (v := .bool (!(y40 == answer_3))) (ev_sne rfl rfl) (by decide) ?_
   refine sr_end (l' := [(60, .bool (!(y40 == answer_3)))]) (.cons rfl (.nil _)) ?_
   refine ke_cond (t := !(y40 == answer_3)) rfl (fun hc57 => ?_) (fun hc57 => ?_)
   ·replace hS := ite_true' hS hc57
    refine ke_seq ?_
    refine ke_region ?_
    refine sr_ev (v := .int .i64 11) (ev_assign rfl) (by decide) ?_
    refine sr_end (l' := [(10, .int .i64 11)]) (.cons rfl (.nil _)) ?_
    cases hS
    exact ke_ret1 Tryz.func24 rfl rfl ⟨_, rfl, leave ρA w0 o 2 (enter ρA o 2), rfl, ⟨_, (hB3.mv (leave_mv (p := 0) (by decide) hb)), (h2.mv (leave_mv (p := 1) (by decide) hb) (Nat.ne_of_gt (Nat.lt_of_lt_of_le (Nat.lt_of_lt_of_le Nat.zero_lt_two ho2) (Nat.le_add_right _ _))))⟩, (leave_tr ho2 hb)⟩
   ·replace hS := ite_false' hS hc57
    refine ke_skip ?_
    refine ke_seq ?_
    refine ke_region ?_
    refine sr_ev (v := .int .i64 0) (ev_assign rfl) (by decide) ?_
    refine sr_end (l' := [(10, .int .i64 0)]) (.cons rfl (.nil _)) ?_
    cases hS
    exact ke_ret1 Tryz.func24 rfl rfl ⟨_, rfl, leave ρA w0 o 2 (enter ρA o 2), rfl, ⟨_, (hB3.mv (leave_mv (p := 0) (by decide) hb)), (h2.mv (leave_mv (p := 1) (by decide) hb) (Nat.ne_of_gt (Nat.lt_of_lt_of_le (Nat.lt_of_lt_of_le Nat.zero_lt_two ho2) (Nat.le_add_right _ _))))⟩, (leave_tr ho2 hb)⟩
theorem ref37_Devices_Revoke_B1_ok {w0 : World} (hg : Gs w0) {ρA : Tags} (hbd : ∀ b, ρA b ≠ 0 → b < w0.heap.size) {o : Nat} (ho2 : 2 ≤ o) {gd_0 : Nat} (hz : Gz (enter ρA o 2)) {r : Bool × ref37_Devices} {gd_0_0 : List ref37_Device} {gd_0_1 : Int} {vgd_0_0 : Value} (hS : ref37_Devices_Revoke_B1 gd_0_0 gd_0_1 = some r) {ρ : Tags} {w : World} (hb : Fr (enter ρA o 2) w0 ρ w) (hgd_0_0 : OwnT ref37_Device.c 70 ρ 17 w vgd_0_0 gd_0_0) (hBgd_0 : Blk ρ 100 w gd_0 (.cells #[vgd_0_0, .int .i64 gd_0_1] 55 (0, 0))) :
  KE Tryz.prog 26 (Ret (fun v w' => ∃ ρ', v = .bool r.1 ∧ ref37_Devices.O (fun p => o + p) ρ' w' gd_0 r.2 ∧ Tr ρA w0 (rng o 2) ρ' w')) 33 [.code (sub (bodyOf Tryz.f26) [2, 2, 2, 2])] [] w := by
 unfold ref37_Devices_Revoke_B1 at hS
 refine ke_seq ?_
 refine ke_region ?_
 refine sr_ev (v := .bool true) (ev_assign rfl) (by decide) ?_
 refine sr_end (l' := [(6, .bool true)]) (.cons rfl (.nil _)) ?_
 have htr333 := rtg_tr (ρ := ρ) (w := w) (i := 17) 101 (by decide) hb.bd
 have hmv334 : Mv ρ w 17 (rtg ρ 17 101) w 101 := rtg_mv (by decide)
 replace hBgd_0 := hBgd_0.mv (htr333.mv (i := 100) rfl)
 replace hb := hb.trans htr333
 replace hgd_0_0 := hgd_0_0.mv hmv334 (by decide)
 cases hS
 exact ke_ret1 Tryz.func26 rfl rfl ⟨_, rfl, leave ρA w0 o 2 (rtg ρ 17 101), rfl, ⟨_, (hBgd_0.mv (leave_mv (p := 0) (by decide) hb)), (hgd_0_0.mv (leave_mv (p := 1) (by decide) hb) (Nat.ne_of_gt (Nat.lt_of_lt_of_le (Nat.lt_of_lt_of_le Nat.zero_lt_two ho2) (Nat.le_add_right _ _))))⟩, (leave_tr ho2 hb)⟩

end YtangcaaneobhnaaGreatDoor
end Go.Proofs
