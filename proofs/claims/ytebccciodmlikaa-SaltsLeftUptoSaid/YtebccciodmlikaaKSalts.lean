/- Package salts as code of the abstract machine. -/
import Derived.Test.YtebccciodmlikaaKF
namespace PK
open Go PAbs

noncomputable def c_salts_New : AFn := AFn.mk 24 [.tmp 2]
  (.seq (.region
      [⟨some 2, .mv (.k (.c (.pnil))), none⟩])
  (.seq (.region
      [⟨some 6, .build ([.str [], .int .i64 0]) [], none⟩,
        ⟨some 7, .box (.t 6), none⟩,
        ⟨some 3, .mv (.t 7), none⟩])
  (.seq (.seq (.region
        [⟨some 8, .mv (.t 0), none⟩,
          ⟨some 9, .len false (.t 8), none⟩,
          ⟨some 10, .mv (.k (.c (.int .i64 0))), none⟩])
    (.block 0
      (.loop
        (.seq (.region
            [⟨some 11, .bin .lss (.t 10) (.t 9), none⟩])
        (.seq (.cond (.t 11)
            (.skip)
            (.exit 0))
        (.seq (.block 1
            (.seq (.region
                [⟨some 12, .idxSlc 1 (.t 8) (.t 10), none⟩,
                  ⟨some 13, .load1 (.t 12), none⟩,
                  ⟨some 5, .mv (.t 13), none⟩])
            (.region
              [⟨some 14, .mv (.t 3), none⟩,
                ⟨some 15, .nilCheck (.t 14), none⟩,
                ⟨some 16, .fieldAddr 0 (.t 15), none⟩,
                ⟨some 17, .load1 (.t 16), none⟩,
                ⟨some 18, .mv (.t 5), none⟩,
                ⟨some 19, .bin .add (.t 17) (.t 18), none⟩,
                ⟨some 20, .nilCheck (.t 14), none⟩,
                ⟨some 21, .fieldAddr 0 (.t 20), none⟩,
                ⟨none, .store 1 (.t 21) (.t 19), none⟩])))
        (.region
          [⟨some 22, .bin .add (.t 10) (.k (.c (.int .i64 1))), none⟩,
            ⟨some 10, .mv (.t 22), none⟩])))))))
  (.seq (.region
      [⟨some 23, .mv (.t 3), none⟩,
        ⟨some 2, .mv (.t 23), none⟩])
  (.ret)))))
theorem t_salts_New : A F_salts_New = some c_salts_New := by kernel_rfl

noncomputable def c_salts_Source_Fork : AFn := AFn.mk 9 [.tmp 2]
  (.seq (.region
      [⟨some 2, .mv (.k (.c (.pnil))), none⟩])
  (.seq (.seq (.region
        [⟨some 4, .mv (.t 0), none⟩,
          ⟨some 5, .eq false .ptr (.t 4) (.k (.c (.pnil))), none⟩])
    (.cond (.t 5)
      (.seq (.region
          [⟨some 2, .mv (.k (.c (.pnil))), none⟩])
      (.ret))
      (.skip)))
  (.seq (.region
      [⟨some 6, .mv (.t 0), none⟩,
        ⟨some 7, .nilCheck (.t 6), none⟩,
        ⟨some 8, .loadN 2 (.t 7), none⟩,
        ⟨some 3, .alloc ([.str [], .int .i64 0]), none⟩,
        ⟨none, .store 2 (.t 3) (.t 8), none⟩])
  (.seq (.region
      [⟨some 2, .mv (.t 3), none⟩])
  (.ret)))))
theorem t_salts_Source_Fork : A F_salts_Source_Fork = some c_salts_Source_Fork := by kernel_rfl

noncomputable def c_salts_Source_Can : AFn := AFn.mk 16 [.tmp 4]
  (.seq (.region
      [⟨some 4, .mv (.k (.c (.int .i64 0))), none⟩])
  (.seq (.block 0
      (.seq (.region
          [⟨some 6, .mv (.t 0), none⟩,
            ⟨some 7, .eq false .ptr (.t 6) (.k (.c (.pnil))), none⟩,
            ⟨some 5, .mv (.t 7), none⟩])
      (.cond (.t 5)
        (.seq (.region
            [⟨some 4, .mv (.k (.c (.int .i64 11))), none⟩])
        (.ret))
        (.seq (.region
            [⟨some 9, .mv (.t 1), none⟩,
              ⟨some 10, .bin .lss (.t 9) (.k (.c (.int .i64 0))), none⟩,
              ⟨some 8, .mv (.t 10), none⟩])
        (.cond (.t 8)
          (.seq (.region
              [⟨some 4, .mv (.k (.c (.int .i64 1))), none⟩])
          (.ret))
          (.seq (.region
              [⟨some 12, .mv (.t 1), none⟩,
                ⟨some 13, .mv (.t 0), none⟩,
                ⟨some 14, .call F_salts_Source_Left [.t 13], none⟩,
                ⟨some 15, .bin .gtr (.t 12) (.t 14), none⟩,
                ⟨some 11, .mv (.t 15), none⟩])
          (.cond (.t 11)
            (.seq (.region
                [⟨some 4, .mv (.k (.c (.int .i64 13))), none⟩])
            (.ret))
            (.skip))))))))
  (.seq (.region
      [⟨some 4, .mv (.k (.c (.int .i64 0))), none⟩])
  (.ret))))
theorem t_salts_Source_Can : A F_salts_Source_Can = some c_salts_Source_Can := by kernel_rfl

noncomputable def c_salts_Source_Draw : AFn := AFn.mk 36 [.tmp 4, .tmp 5]
  (.seq (.region
      [⟨some 4, .mv (.k (.c (.str []))), none⟩,
        ⟨some 5, .mv (.k (.c (.int .i64 0))), none⟩])
  (.seq (.seq (.region
        [⟨some 7, .mv (.t 0), none⟩,
          ⟨some 8, .mv (.t 1), none⟩,
          ⟨some 9, .call F_salts_Source_Can [.t 7, .t 8], none⟩,
          ⟨some 6, .mv (.t 9), none⟩])
    (.seq (.region
        [⟨some 10, .mv (.t 6), none⟩,
          ⟨some 11, .bin .neq (.t 10) (.k (.c (.int .i64 0))), none⟩])
    (.cond (.t 11)
      (.seq (.region
          [⟨some 12, .mv (.t 6), none⟩,
            ⟨some 4, .mv (.k (.c (.str []))), none⟩,
            ⟨some 5, .mv (.t 12), none⟩])
      (.ret))
      (.skip))))
  (.seq (.region
      [⟨some 13, .mv (.t 0), none⟩,
        ⟨some 14, .nilCheck (.t 13), none⟩,
        ⟨some 15, .fieldAddr 1 (.t 14), none⟩,
        ⟨some 16, .load1 (.t 15), none⟩,
        ⟨some 17, .mv (.t 1), none⟩,
        ⟨some 18, .bin .add (.t 16) (.t 17), none⟩,
        ⟨some 19, .nilCheck (.t 13), none⟩,
        ⟨some 20, .fieldAddr 1 (.t 19), none⟩,
        ⟨none, .store 1 (.t 20) (.t 18), none⟩])
  (.seq (.draw
      [⟨some 21, .mv (.t 0), none⟩,
        ⟨some 22, .nilCheck (.t 21), none⟩,
        ⟨some 23, .fieldAddr 0 (.t 22), none⟩,
        ⟨some 24, .load1 (.t 23), none⟩,
        ⟨some 25, .mv (.t 0), none⟩,
        ⟨some 26, .nilCheck (.t 25), none⟩,
        ⟨some 27, .fieldAddr 1 (.t 26), none⟩,
        ⟨some 28, .load1 (.t 27), none⟩,
        ⟨some 29, .mv (.t 1), none⟩,
        ⟨some 30, .bin .sub (.t 28) (.t 29), none⟩,
        ⟨some 31, .mv (.t 0), none⟩,
        ⟨some 32, .nilCheck (.t 31), none⟩,
        ⟨some 33, .fieldAddr 1 (.t 32), none⟩,
        ⟨some 34, .load1 (.t 33), none⟩]
      [⟨some 35, .sliceStr (.t 24) (some (.t 30)) (some (.t 34)), none⟩,
        ⟨some 4, .mv (.t 35), none⟩,
        ⟨some 5, .mv (.k (.c (.int .i64 0))), none⟩])
  (.ret)))))
theorem t_salts_Source_Draw : A F_salts_Source_Draw = some c_salts_Source_Draw := by kernel_rfl

noncomputable def c_salts_Source_Many : AFn := AFn.mk 43 [.tmp 4, .tmp 5]
  (.seq (.region
      [⟨some 4, .mv (.k (.c (.snil))), none⟩,
        ⟨some 5, .mv (.k (.c (.int .i64 0))), none⟩])
  (.seq (.seq (.region
        [⟨some 12, .mv (.t 0), none⟩,
          ⟨some 13, .eq false .ptr (.t 12) (.k (.c (.pnil))), none⟩])
    (.cond (.t 13)
      (.seq (.region
          [⟨some 4, .mv (.k (.c (.snil))), none⟩,
            ⟨some 5, .mv (.k (.c (.int .i64 11))), none⟩])
      (.ret))
      (.skip)))
  (.seq (.region
      [⟨some 14, .mv (.t 0), none⟩,
        ⟨some 15, .nilCheck (.t 14), none⟩,
        ⟨some 16, .fieldAddr 1 (.t 15), none⟩,
        ⟨some 17, .load1 (.t 16), none⟩,
        ⟨some 6, .mv (.t 17), none⟩])
  (.seq (.region
      [⟨some 7, .mv (.k (.c (.snil))), none⟩])
  (.seq (.seq (.region
        [⟨some 18, .mv (.t 1), none⟩,
          ⟨some 19, .len false (.t 18), none⟩,
          ⟨some 20, .mv (.k (.c (.int .i64 0))), none⟩])
    (.block 0
      (.loop
        (.seq (.region
            [⟨some 21, .bin .lss (.t 20) (.t 19), none⟩])
        (.seq (.cond (.t 21)
            (.skip)
            (.exit 0))
        (.seq (.block 1
            (.seq (.region
                [⟨some 22, .idxSlc 1 (.t 18) (.t 20), none⟩,
                  ⟨some 23, .load1 (.t 22), none⟩,
                  ⟨some 9, .mv (.t 23), none⟩])
            (.seq (.region
                [⟨some 25, .mv (.t 0), none⟩,
                  ⟨some 26, .mv (.t 9), none⟩,
                  ⟨some 27, .call F_salts_Source_Draw [.t 25, .t 26], none⟩,
                  ⟨some 24, .mv (.t 27), none⟩,
                  ⟨some 28, .extract (.t 24) 0, none⟩,
                  ⟨some 29, .extract (.t 24) 1, none⟩,
                  ⟨some 10, .mv (.t 28), none⟩,
                  ⟨some 11, .mv (.t 29), none⟩])
            (.seq (.seq (.region
                  [⟨some 30, .mv (.t 11), none⟩,
                    ⟨some 31, .bin .neq (.t 30) (.k (.c (.int .i64 0))), none⟩])
              (.cond (.t 31)
                (.seq (.region
                    [⟨some 32, .mv (.t 0), none⟩,
                      ⟨some 33, .mv (.t 6), none⟩,
                      ⟨some 34, .nilCheck (.t 32), none⟩,
                      ⟨some 35, .fieldAddr 1 (.t 34), none⟩,
                      ⟨none, .store 1 (.t 35) (.t 33), none⟩])
                (.seq (.region
                    [⟨some 36, .mv (.t 11), none⟩,
                      ⟨some 4, .mv (.k (.c (.snil))), none⟩,
                      ⟨some 5, .mv (.t 36), none⟩])
                (.ret)))
                (.skip)))
            (.region
              [⟨some 37, .mv (.t 7), none⟩,
                ⟨some 38, .mv (.t 10), none⟩,
                ⟨some 39, .buildSlice ([.str []]) 1 1 [(0, 1, .t 38)], none⟩,
                ⟨some 40, .append ([.str []]) 16 (.t 37) (.t 39), none⟩,
                ⟨some 7, .mv (.t 40), none⟩])))))
        (.region
          [⟨some 41, .bin .add (.t 20) (.k (.c (.int .i64 1))), none⟩,
            ⟨some 20, .mv (.t 41), none⟩])))))))
  (.seq (.region
      [⟨some 42, .mv (.t 7), none⟩,
        ⟨some 4, .mv (.t 42), none⟩,
        ⟨some 5, .mv (.k (.c (.int .i64 0))), none⟩])
  (.ret)))))))
theorem t_salts_Source_Many : A F_salts_Source_Many = some c_salts_Source_Many := by kernel_rfl

noncomputable def c_salts_Source_Drawn : AFn := AFn.mk 9 [.tmp 2]
  (.seq (.region
      [⟨some 2, .mv (.k (.c (.int .i64 0))), none⟩])
  (.seq (.seq (.region
        [⟨some 3, .mv (.t 0), none⟩,
          ⟨some 4, .eq false .ptr (.t 3) (.k (.c (.pnil))), none⟩])
    (.cond (.t 4)
      (.seq (.region
          [⟨some 2, .mv (.k (.c (.int .i64 0))), none⟩])
      (.ret))
      (.skip)))
  (.seq (.region
      [⟨some 5, .mv (.t 0), none⟩,
        ⟨some 6, .nilCheck (.t 5), none⟩,
        ⟨some 7, .fieldAddr 1 (.t 6), none⟩,
        ⟨some 8, .load1 (.t 7), none⟩,
        ⟨some 2, .mv (.t 8), none⟩])
  (.ret))))
theorem t_salts_Source_Drawn : A F_salts_Source_Drawn = some c_salts_Source_Drawn := by kernel_rfl

noncomputable def c_salts_Source_Left : AFn := AFn.mk 15 [.tmp 2]
  (.seq (.region
      [⟨some 2, .mv (.k (.c (.int .i64 0))), none⟩])
  (.seq (.seq (.region
        [⟨some 3, .mv (.t 0), none⟩,
          ⟨some 4, .eq false .ptr (.t 3) (.k (.c (.pnil))), none⟩])
    (.cond (.t 4)
      (.seq (.region
          [⟨some 2, .mv (.k (.c (.int .i64 0))), none⟩])
      (.ret))
      (.skip)))
  (.seq (.draw
      [⟨some 5, .mv (.t 0), none⟩,
        ⟨some 6, .nilCheck (.t 5), none⟩,
        ⟨some 7, .fieldAddr 0 (.t 6), none⟩,
        ⟨some 8, .load1 (.t 7), none⟩,
        ⟨some 9, .len true (.t 8), none⟩,
        ⟨some 10, .mv (.t 0), none⟩,
        ⟨some 11, .nilCheck (.t 10), none⟩,
        ⟨some 12, .fieldAddr 1 (.t 11), none⟩,
        ⟨some 13, .load1 (.t 12), none⟩]
      [⟨some 14, .bin .sub (.t 9) (.t 13), none⟩,
        ⟨some 2, .mv (.t 14), none⟩])
  (.ret))))
theorem t_salts_Source_Left : A F_salts_Source_Left = some c_salts_Source_Left := by kernel_rfl
end PK
