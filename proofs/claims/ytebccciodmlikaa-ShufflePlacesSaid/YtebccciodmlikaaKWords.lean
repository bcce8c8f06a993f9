/- Package words as code of the abstract machine. -/
import Derived.Test.YtebccciodmlikaaKF
namespace PK
open Go PAbs

noncomputable def c_words_Left32 : AFn := AFn.mk 17 [.tmp 4]
  (.seq (.region
      [⟨some 4, .mv (.k (.c (.int .u32 0))), none⟩])
  (.seq (.region
      [⟨some 6, .mv (.t 1), none⟩,
        ⟨some 7, .convInt .u64 (.t 6), none⟩,
        ⟨some 8, .bin .rem (.t 7) (.k (.c (.int .u64 32))), none⟩,
        ⟨some 5, .mv (.t 8), none⟩])
  (.seq (.region
      [⟨some 9, .mv (.t 0), none⟩,
        ⟨some 10, .mv (.t 5), none⟩,
        ⟨some 11, .bin .shl (.t 9) (.t 10), none⟩,
        ⟨some 12, .mv (.t 0), none⟩,
        ⟨some 13, .mv (.t 5), none⟩,
        ⟨some 14, .bin .sub (.k (.c (.int .u64 32))) (.t 13), none⟩,
        ⟨some 15, .bin .shr (.t 12) (.t 14), none⟩,
        ⟨some 16, .bin .or (.t 11) (.t 15), none⟩,
        ⟨some 4, .mv (.t 16), none⟩])
  (.ret))))
theorem t_words_Left32 : A F_words_Left32 = some c_words_Left32 := by kernel_rfl

noncomputable def c_words_Take32 : AFn := AFn.mk 8 [.tmp 2, .tmp 3]
  (.seq (.region
      [⟨some 2, .mv (.k (.c (.snil))), none⟩,
        ⟨some 3, .mv (.k (.c (.int .i64 0))), none⟩])
  (.seq (.region
      [⟨some 4, .mv (.t 0), none⟩,
        ⟨some 5, .call F_words_take [.t 4, .k (.c (.fn F_words_lowest))], none⟩,
        ⟨some 6, .extract (.t 5) 0, none⟩,
        ⟨some 7, .extract (.t 5) 1, none⟩,
        ⟨some 2, .mv (.t 6), none⟩,
        ⟨some 3, .mv (.t 7), none⟩])
  (.ret)))
theorem t_words_Take32 : A F_words_Take32 = some c_words_Take32 := by kernel_rfl

noncomputable def c_words_Little32 : AFn := AFn.mk 32 [.tmp 2]
  (.seq (.region
      [⟨some 2, .mv (.k (.c (.snil))), none⟩])
  (.seq (.region
      [⟨some 6, .mv (.t 0), none⟩,
        ⟨some 7, .len false (.t 6), none⟩,
        ⟨some 8, .bin .mul (.k (.c (.int .i64 4))) (.t 7), none⟩,
        ⟨some 9, .makeSlice ([.int .u8 0]) 1 (.k (.c (.int .i64 0))) (.t 8), none⟩,
        ⟨some 3, .mv (.t 9), none⟩])
  (.seq (.seq (.region
        [⟨some 10, .mv (.t 0), none⟩,
          ⟨some 11, .len false (.t 10), none⟩,
          ⟨some 12, .mv (.k (.c (.int .i64 0))), none⟩])
    (.block 0
      (.loop
        (.seq (.region
            [⟨some 13, .bin .lss (.t 12) (.t 11), none⟩])
        (.seq (.cond (.t 13)
            (.skip)
            (.exit 0))
        (.seq (.block 1
            (.seq (.region
                [⟨some 14, .idxSlc 1 (.t 10) (.t 12), none⟩,
                  ⟨some 15, .load1 (.t 14), none⟩,
                  ⟨some 5, .mv (.t 15), none⟩])
            (.region
              [⟨some 16, .mv (.t 3), none⟩,
                ⟨some 17, .mv (.t 5), none⟩,
                ⟨some 18, .convInt .u8 (.t 17), none⟩,
                ⟨some 19, .mv (.t 5), none⟩,
                ⟨some 20, .bin .shr (.t 19) (.k (.c (.int .u64 8))), none⟩,
                ⟨some 21, .convInt .u8 (.t 20), none⟩,
                ⟨some 22, .mv (.t 5), none⟩,
                ⟨some 23, .bin .shr (.t 22) (.k (.c (.int .u64 16))), none⟩,
                ⟨some 24, .convInt .u8 (.t 23), none⟩,
                ⟨some 25, .mv (.t 5), none⟩,
                ⟨some 26, .bin .shr (.t 25) (.k (.c (.int .u64 24))), none⟩,
                ⟨some 27, .convInt .u8 (.t 26), none⟩,
                ⟨some 28, .buildSlice (rep 4 (.int .u8 0)) 1 4 [(0, 1, .t 18), (1, 1, .t 21), (2, 1, .t 24), (3, 1, .t 27)], none⟩,
                ⟨some 29, .append ([.int .u8 0]) 1 (.t 16) (.t 28), none⟩,
                ⟨some 3, .mv (.t 29), none⟩])))
        (.region
          [⟨some 30, .bin .add (.t 12) (.k (.c (.int .i64 1))), none⟩,
            ⟨some 12, .mv (.t 30), none⟩])))))))
  (.seq (.region
      [⟨some 31, .mv (.t 3), none⟩,
        ⟨some 2, .mv (.t 31), none⟩])
  (.ret)))))
theorem t_words_Little32 : A F_words_Little32 = some c_words_Little32 := by kernel_rfl

noncomputable def c_words_take : AFn := AFn.mk 41 [.tmp 4, .tmp 5]
  (.seq (.region
      [⟨some 4, .mv (.k (.c (.snil))), none⟩,
        ⟨some 5, .mv (.k (.c (.int .i64 0))), none⟩])
  (.seq (.seq (.region
        [⟨some 9, .mv (.t 0), none⟩,
          ⟨some 10, .len false (.t 9), none⟩,
          ⟨some 11, .bin .rem (.t 10) (.k (.c (.int .i64 4))), none⟩,
          ⟨some 12, .bin .neq (.t 11) (.k (.c (.int .i64 0))), none⟩])
    (.cond (.t 12)
      (.seq (.region
          [⟨some 4, .mv (.k (.c (.snil))), none⟩,
            ⟨some 5, .mv (.k (.c (.int .i64 9))), none⟩])
      (.ret))
      (.skip)))
  (.seq (.region
      [⟨some 13, .mv (.t 0), none⟩,
        ⟨some 14, .len false (.t 13), none⟩,
        ⟨some 15, .bin .quo (.t 14) (.k (.c (.int .i64 4))), none⟩,
        ⟨some 16, .makeSlice ([.int .u32 0]) 4 (.t 15) (.t 15), none⟩,
        ⟨some 6, .mv (.t 16), none⟩])
  (.seq (.seq (.region
        [⟨some 17, .mv (.t 0), none⟩,
          ⟨some 18, .len false (.t 17), none⟩,
          ⟨some 19, .mv (.k (.c (.int .i64 0))), none⟩])
    (.block 0
      (.loop
        (.seq (.region
            [⟨some 20, .bin .lss (.t 19) (.t 18), none⟩])
        (.seq (.cond (.t 20)
            (.skip)
            (.exit 0))
        (.seq (.block 1
            (.seq (.region
                [⟨some 21, .mv (.t 19), none⟩,
                  ⟨some 22, .idxSlc 1 (.t 17) (.t 19), none⟩,
                  ⟨some 23, .load1 (.t 22), none⟩,
                  ⟨some 7, .mv (.t 21), none⟩,
                  ⟨some 8, .mv (.t 23), none⟩])
            (.draw
              [⟨some 24, .mv (.t 6), none⟩,
                ⟨some 25, .mv (.t 7), none⟩,
                ⟨some 26, .bin .quo (.t 25) (.k (.c (.int .i64 4))), none⟩,
                ⟨some 27, .idxSlc 1 (.t 24) (.t 26), none⟩,
                ⟨some 28, .load1 (.t 27), none⟩,
                ⟨some 29, .mv (.t 8), none⟩,
                ⟨some 30, .convInt .u32 (.t 29), none⟩,
                ⟨some 31, .mv (.t 1), none⟩,
                ⟨some 32, .mv (.t 7), none⟩,
                ⟨some 33, .bin .rem (.t 32) (.k (.c (.int .i64 4))), none⟩,
                ⟨some 34, .callV (.t 31) [.t 33], none⟩,
                ⟨some 35, .bin .mul (.k (.c (.int .i64 8))) (.t 34), none⟩,
                ⟨some 36, .bin .shl (.t 30) (.t 35), none⟩]
              [⟨some 37, .bin .or (.t 28) (.t 36), none⟩,
                ⟨some 38, .idxSlc 1 (.t 24) (.t 26), none⟩,
                ⟨none, .store 1 (.t 38) (.t 37), none⟩])))
        (.region
          [⟨some 39, .bin .add (.t 19) (.k (.c (.int .i64 1))), none⟩,
            ⟨some 19, .mv (.t 39), none⟩])))))))
  (.seq (.region
      [⟨some 40, .mv (.t 6), none⟩,
        ⟨some 4, .mv (.t 40), none⟩,
        ⟨some 5, .mv (.k (.c (.int .i64 0))), none⟩])
  (.ret))))))
theorem t_words_take : A F_words_take = some c_words_take := by kernel_rfl

noncomputable def c_words_lowest : AFn := AFn.mk 4 [.tmp 2]
  (.seq (.region
      [⟨some 2, .mv (.k (.c (.int .i64 0))), none⟩])
  (.seq (.region
      [⟨some 3, .mv (.t 0), none⟩,
        ⟨some 2, .mv (.t 3), none⟩])
  (.ret)))
theorem t_words_lowest : A F_words_lowest = some c_words_lowest := by kernel_rfl
end PK
