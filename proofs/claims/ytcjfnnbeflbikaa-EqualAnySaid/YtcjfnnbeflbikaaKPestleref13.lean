/- Package pestleref13 as code of the abstract machine. -/
import Derived.Test.YtcjfnnbeflbikaaKF
namespace PK
open Go PAbs

noncomputable def c_pestleref13_Same : AFn := AFn.mk 25 [.tmp 4]
  (.seq (.region
      [⟨some 4, .mv (.k (.c (.bool false))), none⟩])
  (.seq (.seq (.region
        [⟨some 6, .mv (.t 0), none⟩,
          ⟨some 7, .len true (.t 6), none⟩,
          ⟨some 8, .mv (.t 1), none⟩,
          ⟨some 9, .len true (.t 8), none⟩,
          ⟨some 10, .bin .neq (.t 7) (.t 9), none⟩])
    (.cond (.t 10)
      (.seq (.region
          [⟨some 4, .mv (.k (.c (.bool false))), none⟩])
      (.ret))
      (.skip)))
  (.seq (.seq (.region
        [⟨some 11, .mv (.t 0), none⟩,
          ⟨some 12, .len true (.t 11), none⟩,
          ⟨some 13, .bin .sub (.t 12) (.k (.c (.int .i64 1))), none⟩,
          ⟨some 5, .mv (.t 13), none⟩])
    (.block 0
      (.loop
        (.seq (.seq (.region
              [⟨some 14, .mv (.t 5), none⟩,
                ⟨some 15, .bin .geq (.t 14) (.k (.c (.int .i64 0))), none⟩])
          (.cond (.t 15)
            (.skip)
            (.exit 0)))
        (.seq (.block 1
            (.seq (.draw
                [⟨some 18, .mv (.t 0), none⟩,
                  ⟨some 19, .mv (.t 5), none⟩,
                  ⟨some 20, .elemStr (.t 18) (.t 19), none⟩,
                  ⟨some 21, .mv (.t 1), none⟩,
                  ⟨some 22, .mv (.t 5), none⟩,
                  ⟨some 23, .elemStr (.t 21) (.t 22), none⟩]
                [⟨some 24, .bin .neq (.t 20) (.t 23), none⟩])
            (.cond (.t 24)
              (.seq (.region
                  [⟨some 4, .mv (.k (.c (.bool false))), none⟩])
              (.ret))
              (.skip))))
        (.region
          [⟨some 16, .mv (.t 5), none⟩,
            ⟨some 17, .bin .sub (.t 16) (.k (.c (.int .i64 1))), none⟩,
            ⟨some 5, .mv (.t 17), none⟩]))))))
  (.seq (.region
      [⟨some 4, .mv (.k (.c (.bool true))), none⟩])
  (.ret)))))
theorem t_pestleref13_Same : A F_pestleref13_Same = some c_pestleref13_Same := by kernel_rfl
end PK
