/- Package pestleref04 as code of the abstract machine. -/
import Derived.Test.YtebccciodmlikaaKF
namespace PK
open Go PAbs

noncomputable def c_pestleref04_Bytes : AFn := AFn.mk 19 [.tmp 2]
  (.seq (.region
      [⟨some 2, .mv (.k (.c (.int .i64 0))), none⟩])
  (.seq (.region
      [⟨some 3, .mv (.k (.c (.int .i64 0))), none⟩])
  (.seq (.seq (.region
        [⟨some 4, .mv (.k (.c (.int .i64 0))), none⟩])
    (.block 0
      (.loop
        (.seq (.seq (.region
              [⟨some 5, .mv (.t 4), none⟩,
                ⟨some 6, .mv (.t 0), none⟩,
                ⟨some 7, .len false (.t 6), none⟩,
                ⟨some 8, .bin .lss (.t 5) (.t 7), none⟩])
          (.cond (.t 8)
            (.skip)
            (.exit 0)))
        (.seq (.block 1
            (.region
              [⟨some 11, .mv (.t 3), none⟩,
                ⟨some 12, .mv (.t 0), none⟩,
                ⟨some 13, .mv (.t 4), none⟩,
                ⟨some 14, .idxSlc 1 (.t 12) (.t 13), none⟩,
                ⟨some 15, .load1 (.t 14), none⟩,
                ⟨some 16, .len true (.t 15), none⟩,
                ⟨some 17, .bin .add (.t 11) (.t 16), none⟩,
                ⟨some 3, .mv (.t 17), none⟩]))
        (.region
          [⟨some 9, .mv (.t 4), none⟩,
            ⟨some 10, .bin .add (.t 9) (.k (.c (.int .i64 1))), none⟩,
            ⟨some 4, .mv (.t 10), none⟩]))))))
  (.seq (.region
      [⟨some 18, .mv (.t 3), none⟩,
        ⟨some 2, .mv (.t 18), none⟩])
  (.ret)))))
theorem t_pestleref04_Bytes : A F_pestleref04_Bytes = some c_pestleref04_Bytes := by kernel_rfl

noncomputable def c_pestleref04_Joined : AFn := AFn.mk 18 [.tmp 2]
  (.seq (.region
      [⟨some 2, .mv (.k (.c (.str []))), none⟩])
  (.seq (.region
      [⟨some 3, .mv (.k (.c (.str []))), none⟩])
  (.seq (.seq (.region
        [⟨some 4, .mv (.k (.c (.int .i64 0))), none⟩])
    (.block 0
      (.loop
        (.seq (.seq (.region
              [⟨some 5, .mv (.t 4), none⟩,
                ⟨some 6, .mv (.t 0), none⟩,
                ⟨some 7, .len false (.t 6), none⟩,
                ⟨some 8, .bin .lss (.t 5) (.t 7), none⟩])
          (.cond (.t 8)
            (.skip)
            (.exit 0)))
        (.seq (.block 1
            (.region
              [⟨some 11, .mv (.t 3), none⟩,
                ⟨some 12, .mv (.t 0), none⟩,
                ⟨some 13, .mv (.t 4), none⟩,
                ⟨some 14, .idxSlc 1 (.t 12) (.t 13), none⟩,
                ⟨some 15, .load1 (.t 14), none⟩,
                ⟨some 16, .bin .add (.t 11) (.t 15), none⟩,
                ⟨some 3, .mv (.t 16), none⟩]))
        (.region
          [⟨some 9, .mv (.t 4), none⟩,
            ⟨some 10, .bin .add (.t 9) (.k (.c (.int .i64 1))), none⟩,
            ⟨some 4, .mv (.t 10), none⟩]))))))
  (.seq (.region
      [⟨some 17, .mv (.t 3), none⟩,
        ⟨some 2, .mv (.t 17), none⟩])
  (.ret)))))
theorem t_pestleref04_Joined : A F_pestleref04_Joined = some c_pestleref04_Joined := by kernel_rfl

noncomputable def c_pestleref04_Blocks : AFn := AFn.mk 34 [.tmp 6, .tmp 7]
  (.seq (.region
      [⟨some 6, .mv (.k (.c (.snil))), none⟩,
        ⟨some 7, .mv (.k (.c (.str []))), none⟩])
  (.seq (.region
      [⟨some 8, .mv (.k (.c (.snil))), none⟩])
  (.seq (.block 0
      (.loop
        (.seq (.seq (.region
              [⟨some 9, .mv (.t 0), none⟩,
                ⟨some 10, .len true (.t 9), none⟩,
                ⟨some 11, .mv (.t 1), none⟩,
                ⟨some 12, .bin .gtr (.t 10) (.t 11), none⟩,
                ⟨some 13, .mv (.t 12), none⟩,
                ⟨some 14, .mv (.t 2), some (13, false)⟩,
                ⟨some 15, .un .not (.t 14), some (13, false)⟩,
                ⟨some 16, .mv (.t 15), some (13, false)⟩,
                ⟨some 17, .mv (.t 0), some (16, true)⟩,
                ⟨some 18, .len true (.t 17), some (16, true)⟩,
                ⟨some 19, .mv (.t 1), some (16, true)⟩,
                ⟨some 20, .bin .eql (.t 18) (.t 19), some (16, true)⟩,
                ⟨some 21, .pick (.t 16) (.t 20) (.k (.c (.bool false))), some (13, false)⟩,
                ⟨some 22, .pick (.t 13) (.k (.c (.bool true))) (.t 21), none⟩])
          (.cond (.t 22)
            (.skip)
            (.exit 0)))
        (.block 1
          (.seq (.region
              [⟨some 23, .mv (.t 8), none⟩,
                ⟨some 24, .mv (.t 0), none⟩,
                ⟨some 25, .mv (.t 1), none⟩,
                ⟨some 26, .sliceStr (.t 24) none (some (.t 25)), none⟩,
                ⟨some 27, .buildSlice ([.str []]) 1 1 [(0, 1, .t 26)], none⟩,
                ⟨some 28, .append ([.str []]) 16 (.t 23) (.t 27), none⟩,
                ⟨some 8, .mv (.t 28), none⟩])
          (.region
            [⟨some 29, .mv (.t 0), none⟩,
              ⟨some 30, .mv (.t 1), none⟩,
              ⟨some 31, .sliceStr (.t 29) (some (.t 30)) none, none⟩,
              ⟨some 0, .mv (.t 31), none⟩]))))))
  (.seq (.region
      [⟨some 32, .mv (.t 8), none⟩,
        ⟨some 33, .mv (.t 0), none⟩,
        ⟨some 6, .mv (.t 32), none⟩,
        ⟨some 7, .mv (.t 33), none⟩])
  (.ret)))))
theorem t_pestleref04_Blocks : A F_pestleref04_Blocks = some c_pestleref04_Blocks := by kernel_rfl
end PK
