/- Facts on calls, by the machine. -/
import Derived.Test.YtbaongomialaoaaGreatDoorCf
import Derived.Test.YtbaongomialaoaaGreatDoorVa
section
namespace Go.Arb
set_option linter.unusedVariables false
set_option maxRecDepth 100000
open Go Go.Lib Go.Proofs

noncomputable def tab0 : Tab := [(24, [([.agg [.sl [[.i .i64 0]], .sl [[.i .i64 0]], .i .i64 46, .i .u64 0]], .i .i64 0),
    ([.agg [.nilsl, .nilsl, .i .i64 0, .i .u64 0]], .i .i64 0)]),
  (58, [([.agg [.i .i64 0, .i .i64 0, .s []]], .b true),
    ([.agg [.i .i64 1, .i .i64 (-9223372036854775808), .s []]], .b true),
    ([.agg [.i .i64 1, .i .i64 1, .s []]], .b true),
    ([.agg [.i .i64 2, .i .i64 0, .s []]], .b true),
    ([.agg [.i .i64 2, .i .i64 0, .s [126, 48]]], .b true),
    ([.agg [.i .i64 1, .i .i64 2, .s []]], .b true),
    ([.agg [.i .i64 1, .i .i64 4, .s []]], .b true),
    ([.agg [.i .i64 1, .i .i64 6, .s []]], .b true),
    ([.agg [.i .i64 1, .i .i64 3, .s []]], .b true)]),
  (74, [([], .agg [.b true, .sl [[.i .i64 (-9223372036854775808), .i .i64 9223372036854775807]], .b true, .nilsl, .b true, .sl [[.i .i64 (-9223372036854775808), .i .i64 9223372036854775807]], .b true, .nilsl, .b true, .sl [[.i .i64 (-9223372036854775808), .i .i64 9223372036854775807]], .b true, .nilsl, .b true, .sl [[.i .i64 (-9223372036854775808), .i .i64 9223372036854775807]], .b true, .nilsl])]),
  (96, [([.nilsl], .sl [[.i .i64 (-9223372036854775808), .i .i64 9223372036854775807]]),
    ([.sl [[.i .i64 1, .i .i64 5]]], .sl [[.i .i64 (-9223372036854775808), .i .i64 0], [.i .i64 6, .i .i64 9223372036854775807]]),
    ([.sl [[.i .i64 (-9223372036854775808), .i .i64 9223372036854775807]]], .nilsl),
    ([.sl [[.i .i64 (-9223372036854775808), .i .i64 0]]], .sl [[.i .i64 1, .i .i64 9223372036854775807]]),
    ([.sl [[.i .i64 1, .i .i64 1]]], .sl [[.i .i64 (-9223372036854775808), .i .i64 0], [.i .i64 2, .i .i64 9223372036854775807]]),
    ([.sl [[.i .i64 (-9223372036854775808), .i .i64 0], [.i .i64 2, .i .i64 9223372036854775807]]], .sl [[.i .i64 1, .i .i64 1]]),
    ([.sl [[.i .i64 2, .i .i64 3]]], .sl [[.i .i64 (-9223372036854775808), .i .i64 1], [.i .i64 4, .i .i64 9223372036854775807]]),
    ([.sl [[.i .i64 (-9223372036854775808), .i .i64 1], [.i .i64 4, .i .i64 9223372036854775807]]], .sl [[.i .i64 2, .i .i64 3]]),
    ([.sl [[.i .i64 4, .i .i64 5]]], .sl [[.i .i64 (-9223372036854775808), .i .i64 3], [.i .i64 6, .i .i64 9223372036854775807]]),
    ([.sl [[.i .i64 (-9223372036854775808), .i .i64 3], [.i .i64 6, .i .i64 9223372036854775807]]], .sl [[.i .i64 4, .i .i64 5]]),
    ([.sl [[.i .i64 6, .i .i64 9223372036854775807]]], .sl [[.i .i64 (-9223372036854775808), .i .i64 5]])]),
  (102, [([.agg [.b false, .sl [[.i .i64 1, .i .i64 5]], .b false, .nilsl]], .b true),
    ([.agg [.b true, .sl [[.i .i64 (-9223372036854775808), .i .i64 9223372036854775807]], .b true, .nilsl]], .b true),
    ([.agg [.b false, .sl [[.i .i64 2, .i .i64 3]], .b false, .nilsl]], .b true),
    ([.agg [.b true, .nilsl, .b false, .nilsl]], .b true),
    ([.agg [.b false, .sl [[.i .i64 (-9223372036854775808), .i .i64 0]], .b false, .nilsl]], .b true),
    ([.agg [.b false, .sl [[.i .i64 1, .i .i64 1]], .b false, .nilsl]], .b true),
    ([.agg [.b false, .sl [[.i .i64 (-9223372036854775808), .i .i64 9223372036854775807]], .b false, .nilsl]], .b true),
    ([.agg [.b false, .nilsl, .b true, .nilsl]], .b true),
    ([.agg [.b false, .sl [[.i .i64 4, .i .i64 5]], .b false, .nilsl]], .b true),
    ([.agg [.b false, .sl [[.i .i64 6, .i .i64 9223372036854775807]], .b false, .nilsl]], .b true)]),
  (103, [([.agg [.b false, .sl [[.i .i64 1, .i .i64 5]], .b false, .nilsl]], .b true),
    ([.agg [.b true, .sl [[.i .i64 (-9223372036854775808), .i .i64 9223372036854775807]], .b true, .nilsl]], .b true),
    ([.agg [.b false, .sl [[.i .i64 2, .i .i64 3]], .b false, .nilsl]], .b true)]),
  (117, [([.agg [.b false, .sl [[.i .i64 1, .i .i64 5]], .b false, .nilsl], .agg [.b false, .nilsl, .b false, .nilsl]], .b false),
    ([.agg [.b false, .sl [[.i .i64 2, .i .i64 3]], .b false, .nilsl], .agg [.b false, .nilsl, .b false, .nilsl]], .b false),
    ([.agg [.b false, .sl [[.i .i64 1, .i .i64 1]], .b false, .nilsl], .agg [.b false, .sl [[.i .i64 1, .i .i64 1]], .b false, .nilsl]], .b true),
    ([.agg [.b false, .sl [[.i .i64 2, .i .i64 3]], .b false, .nilsl], .agg [.b false, .sl [[.i .i64 2, .i .i64 3]], .b false, .nilsl]], .b true),
    ([.agg [.b false, .sl [[.i .i64 4, .i .i64 5]], .b false, .nilsl], .agg [.b false, .sl [[.i .i64 4, .i .i64 5]], .b false, .nilsl]], .b true),
    ([.agg [.b true, .nilsl, .b false, .nilsl], .agg [.b true, .nilsl, .b false, .nilsl]], .b true),
    ([.agg [.b false, .sl [[.i .i64 (-9223372036854775808), .i .i64 9223372036854775807]], .b false, .nilsl], .agg [.b false, .sl [[.i .i64 (-9223372036854775808), .i .i64 9223372036854775807]], .b false, .nilsl]], .b true),
    ([.agg [.b false, .nilsl, .b true, .nilsl], .agg [.b false, .nilsl, .b true, .nilsl]], .b true)]),
  (118, [([.agg [.b false, .sl [[.i .i64 1, .i .i64 5]], .b false, .nilsl]], .b false),
    ([.agg [.b true, .sl [[.i .i64 (-9223372036854775808), .i .i64 9223372036854775807]], .b true, .nilsl]], .b false),
    ([.agg [.b false, .sl [[.i .i64 2, .i .i64 3]], .b false, .nilsl]], .b false),
    ([.agg [.b false, .nilsl, .b false, .nilsl]], .b true),
    ([.agg [.b false, .sl [[.i .i64 1, .i .i64 1]], .b false, .nilsl]], .b false),
    ([.agg [.b false, .sl [[.i .i64 4, .i .i64 5]], .b false, .nilsl]], .b false),
    ([.agg [.b true, .nilsl, .b false, .nilsl]], .b false),
    ([.agg [.b false, .sl [[.i .i64 (-9223372036854775808), .i .i64 9223372036854775807]], .b false, .nilsl]], .b false),
    ([.agg [.b false, .nilsl, .b true, .nilsl]], .b false),
    ([.agg [.b false, .sl [[.i .i64 (-9223372036854775808), .i .i64 0]], .b false, .nilsl]], .b false),
    ([.agg [.b false, .sl [[.i .i64 6, .i .i64 9223372036854775807]], .b false, .nilsl]], .b false)]),
  (127, [([.i .u64 0], .i .i64 0),
    ([.i .u64 5], .i .i64 3),
    ([.i .u64 3], .i .i64 2),
    ([.i .u64 1], .i .i64 1),
    ([.i .u64 4], .i .i64 3),
    ([.i .u64 2], .i .i64 2)]),
  (132, [([.sl [[.i .i64 1, .sl [[.b false, .sl [[.i .i64 1, .i .i64 5]], .b false, .nilsl, .b true, .sl [[.i .i64 (-9223372036854775808), .i .i64 9223372036854775807]], .b true, .nilsl, .b true, .sl [[.i .i64 (-9223372036854775808), .i .i64 9223372036854775807]], .b true, .nilsl, .b true, .sl [[.i .i64 (-9223372036854775808), .i .i64 9223372036854775807]], .b true, .nilsl]], .i .u64 0]], .i .u64 0], .tup [.i .i64 0, .i .i64 0, .b false, .b false]),
    ([.sl [[.i .i64 3, .sl [[.b false, .sl [[.i .i64 2, .i .i64 3]], .b false, .nilsl, .b true, .sl [[.i .i64 (-9223372036854775808), .i .i64 9223372036854775807]], .b true, .nilsl, .b true, .sl [[.i .i64 (-9223372036854775808), .i .i64 9223372036854775807]], .b true, .nilsl, .b true, .sl [[.i .i64 (-9223372036854775808), .i .i64 9223372036854775807]], .b true, .nilsl]], .i .u64 0]], .i .u64 0], .tup [.i .i64 0, .i .i64 0, .b false, .b false])]),
  (204, [([.i .u64 1], .s [1]),
    ([.i .u64 2], .s [2]),
    ([.i .u64 10], .s [10]),
    ([.i .u64 0], .s [0]),
    ([.i .u64 18446744073709551615], .s [129, 255, 255, 255, 255, 255, 255, 255, 255, 127]),
    ([.i .u64 18446744073709551614], .s [129, 255, 255, 255, 255, 255, 255, 255, 255, 126]),
    ([.i .u64 4], .s [4]),
    ([.i .u64 6], .s [6])]),
  (245, [([.i .i64 0, .sl [[.i .i64 0], [.i .i64 0], [.i .i64 1], [.i .i64 1], [.i .i64 1], [.i .i64 0], [.i .i64 0]]], .s [48, 32, 48, 32, 48, 32, 49, 32, 49, 32, 49, 32, 48, 32, 48]),
    ([.i .i64 0, .sl [[.i .i64 0], [.i .i64 0], [.i .i64 0], [.i .i64 1], [.i .i64 0], [.i .i64 0], [.i .i64 0]]], .s [48, 32, 48, 32, 48, 32, 48, 32, 49, 32, 48, 32, 48, 32, 48])])]
noncomputable def all0 : Tab := tab0 ++ []
theorem facts0 : factsT Tryz.prog (cfg19.kf ([])) 1000 tab0 = true := by kernel_rfl
end Go.Arb
end

section
namespace Go.Arb
set_option linter.unusedVariables false
set_option maxRecDepth 100000
open Go Go.Lib Go.Proofs

noncomputable def tab1 : Tab := [(26, [([.agg [.sl [[.i .i64 0]], .sl [[.i .i64 0]], .i .i64 46, .i .u64 0], .i .i64 0], .sl [[.i .i64 1]])]),
  (34, [([.agg [.i .i64 1, .i .i64 3, .s [], .i .i64 0, .i .i64 0, .s [], .i .i64 0, .i .i64 0, .s [], .i .i64 0, .i .i64 0, .s []]], .b true)]),
  (51, [([.agg [.i .i64 1, .i .i64 0, .b false, .sl [[.i .i64 1, .i .i64 5]], .b false, .nilsl, .nilsl]], .b true),
    ([.agg [.i .i64 1, .i .i64 0, .b false, .sl [[.i .i64 2, .i .i64 3]], .b false, .nilsl, .nilsl]], .b true)]),
  (72, [([.i .i64 0, .agg [.b false, .sl [[.i .i64 1, .i .i64 5]], .b false, .nilsl]], .agg [.b false, .sl [[.i .i64 1, .i .i64 5]], .b false, .nilsl, .b true, .sl [[.i .i64 (-9223372036854775808), .i .i64 9223372036854775807]], .b true, .nilsl, .b true, .sl [[.i .i64 (-9223372036854775808), .i .i64 9223372036854775807]], .b true, .nilsl, .b true, .sl [[.i .i64 (-9223372036854775808), .i .i64 9223372036854775807]], .b true, .nilsl]),
    ([.i .i64 0, .agg [.b false, .sl [[.i .i64 2, .i .i64 3]], .b false, .nilsl]], .agg [.b false, .sl [[.i .i64 2, .i .i64 3]], .b false, .nilsl, .b true, .sl [[.i .i64 (-9223372036854775808), .i .i64 9223372036854775807]], .b true, .nilsl, .b true, .sl [[.i .i64 (-9223372036854775808), .i .i64 9223372036854775807]], .b true, .nilsl, .b true, .sl [[.i .i64 (-9223372036854775808), .i .i64 9223372036854775807]], .b true, .nilsl])]),
  (77, [([.agg [.b false, .sl [[.i .i64 1, .i .i64 5]], .b false, .nilsl, .b true, .sl [[.i .i64 (-9223372036854775808), .i .i64 9223372036854775807]], .b true, .nilsl, .b true, .sl [[.i .i64 (-9223372036854775808), .i .i64 9223372036854775807]], .b true, .nilsl, .b true, .sl [[.i .i64 (-9223372036854775808), .i .i64 9223372036854775807]], .b true, .nilsl]], .b true),
    ([.agg [.b false, .sl [[.i .i64 2, .i .i64 3]], .b false, .nilsl, .b true, .sl [[.i .i64 (-9223372036854775808), .i .i64 9223372036854775807]], .b true, .nilsl, .b true, .sl [[.i .i64 (-9223372036854775808), .i .i64 9223372036854775807]], .b true, .nilsl, .b true, .sl [[.i .i64 (-9223372036854775808), .i .i64 9223372036854775807]], .b true, .nilsl]], .b true)]),
  (78, [([.agg [.b false, .sl [[.i .i64 1, .i .i64 5]], .b false, .nilsl, .b true, .sl [[.i .i64 (-9223372036854775808), .i .i64 9223372036854775807]], .b true, .nilsl, .b true, .sl [[.i .i64 (-9223372036854775808), .i .i64 9223372036854775807]], .b true, .nilsl, .b true, .sl [[.i .i64 (-9223372036854775808), .i .i64 9223372036854775807]], .b true, .nilsl]], .b true),
    ([.agg [.b false, .sl [[.i .i64 2, .i .i64 3]], .b false, .nilsl, .b true, .sl [[.i .i64 (-9223372036854775808), .i .i64 9223372036854775807]], .b true, .nilsl, .b true, .sl [[.i .i64 (-9223372036854775808), .i .i64 9223372036854775807]], .b true, .nilsl, .b true, .sl [[.i .i64 (-9223372036854775808), .i .i64 9223372036854775807]], .b true, .nilsl]], .b true)]),
  (93, [([.agg [.b false, .sl [[.i .i64 1, .i .i64 5]], .b false, .nilsl, .b true, .sl [[.i .i64 (-9223372036854775808), .i .i64 9223372036854775807]], .b true, .nilsl, .b true, .sl [[.i .i64 (-9223372036854775808), .i .i64 9223372036854775807]], .b true, .nilsl, .b true, .sl [[.i .i64 (-9223372036854775808), .i .i64 9223372036854775807]], .b true, .nilsl]], .b false),
    ([.agg [.b false, .sl [[.i .i64 2, .i .i64 3]], .b false, .nilsl, .b true, .sl [[.i .i64 (-9223372036854775808), .i .i64 9223372036854775807]], .b true, .nilsl, .b true, .sl [[.i .i64 (-9223372036854775808), .i .i64 9223372036854775807]], .b true, .nilsl, .b true, .sl [[.i .i64 (-9223372036854775808), .i .i64 9223372036854775807]], .b true, .nilsl]], .b false)]),
  (97, [([.nilsl], .nilsl),
    ([.sl [[.i .i64 1, .i .i64 5]]], .sl [[.i .i64 1, .i .i64 5]]),
    ([.sl [[.i .i64 (-9223372036854775808), .i .i64 9223372036854775807], [.i .i64 (-9223372036854775808), .i .i64 0], [.i .i64 6, .i .i64 9223372036854775807]]], .sl [[.i .i64 (-9223372036854775808), .i .i64 9223372036854775807]]),
    ([.sl [[.i .i64 (-9223372036854775808), .i .i64 9223372036854775807]]], .sl [[.i .i64 (-9223372036854775808), .i .i64 9223372036854775807]]),
    ([.sl [[.i .i64 (-9223372036854775808), .i .i64 0]]], .sl [[.i .i64 (-9223372036854775808), .i .i64 0]]),
    ([.sl [[.i .i64 1, .i .i64 9223372036854775807], [.i .i64 (-9223372036854775808), .i .i64 0], [.i .i64 6, .i .i64 9223372036854775807]]], .sl [[.i .i64 (-9223372036854775808), .i .i64 9223372036854775807]]),
    ([.sl [[.i .i64 1, .i .i64 1]]], .sl [[.i .i64 1, .i .i64 1]]),
    ([.sl [[.i .i64 (-9223372036854775808), .i .i64 0], [.i .i64 2, .i .i64 9223372036854775807], [.i .i64 (-9223372036854775808), .i .i64 0], [.i .i64 6, .i .i64 9223372036854775807]]], .sl [[.i .i64 (-9223372036854775808), .i .i64 0], [.i .i64 2, .i .i64 9223372036854775807]]),
    ([.sl [[.i .i64 (-9223372036854775808), .i .i64 0], [.i .i64 2, .i .i64 9223372036854775807]]], .sl [[.i .i64 (-9223372036854775808), .i .i64 0], [.i .i64 2, .i .i64 9223372036854775807]]),
    ([.sl [[.i .i64 2, .i .i64 3]]], .sl [[.i .i64 2, .i .i64 3]]),
    ([.sl [[.i .i64 (-9223372036854775808), .i .i64 1], [.i .i64 4, .i .i64 9223372036854775807], [.i .i64 (-9223372036854775808), .i .i64 0], [.i .i64 6, .i .i64 9223372036854775807]]], .sl [[.i .i64 (-9223372036854775808), .i .i64 1], [.i .i64 4, .i .i64 9223372036854775807]]),
    ([.sl [[.i .i64 (-9223372036854775808), .i .i64 1], [.i .i64 4, .i .i64 9223372036854775807]]], .sl [[.i .i64 (-9223372036854775808), .i .i64 1], [.i .i64 4, .i .i64 9223372036854775807]]),
    ([.sl [[.i .i64 4, .i .i64 5]]], .sl [[.i .i64 4, .i .i64 5]]),
    ([.sl [[.i .i64 (-9223372036854775808), .i .i64 3], [.i .i64 6, .i .i64 9223372036854775807], [.i .i64 (-9223372036854775808), .i .i64 0], [.i .i64 6, .i .i64 9223372036854775807]]], .sl [[.i .i64 (-9223372036854775808), .i .i64 3], [.i .i64 6, .i .i64 9223372036854775807]]),
    ([.sl [[.i .i64 (-9223372036854775808), .i .i64 3], [.i .i64 6, .i .i64 9223372036854775807]]], .sl [[.i .i64 (-9223372036854775808), .i .i64 3], [.i .i64 6, .i .i64 9223372036854775807]]),
    ([.sl [[.i .i64 6, .i .i64 9223372036854775807]]], .sl [[.i .i64 6, .i .i64 9223372036854775807]]),
    ([.sl [[.i .i64 (-9223372036854775808), .i .i64 5], [.i .i64 (-9223372036854775808), .i .i64 0], [.i .i64 6, .i .i64 9223372036854775807]]], .sl [[.i .i64 (-9223372036854775808), .i .i64 9223372036854775807]]),
    ([.sl [[.i .i64 (-9223372036854775808), .i .i64 9223372036854775807], [.i .i64 (-9223372036854775808), .i .i64 1], [.i .i64 4, .i .i64 9223372036854775807]]], .sl [[.i .i64 (-9223372036854775808), .i .i64 9223372036854775807]]),
    ([.sl [[.i .i64 1, .i .i64 9223372036854775807], [.i .i64 (-9223372036854775808), .i .i64 1], [.i .i64 4, .i .i64 9223372036854775807]]], .sl [[.i .i64 (-9223372036854775808), .i .i64 9223372036854775807]]),
    ([.sl [[.i .i64 (-9223372036854775808), .i .i64 0], [.i .i64 2, .i .i64 9223372036854775807], [.i .i64 (-9223372036854775808), .i .i64 1], [.i .i64 4, .i .i64 9223372036854775807]]], .sl [[.i .i64 (-9223372036854775808), .i .i64 9223372036854775807]]),
    ([.sl [[.i .i64 (-9223372036854775808), .i .i64 1], [.i .i64 4, .i .i64 9223372036854775807], [.i .i64 (-9223372036854775808), .i .i64 1], [.i .i64 4, .i .i64 9223372036854775807]]], .sl [[.i .i64 (-9223372036854775808), .i .i64 1], [.i .i64 4, .i .i64 9223372036854775807]]),
    ([.sl [[.i .i64 (-9223372036854775808), .i .i64 3], [.i .i64 6, .i .i64 9223372036854775807], [.i .i64 (-9223372036854775808), .i .i64 1], [.i .i64 4, .i .i64 9223372036854775807]]], .sl [[.i .i64 (-9223372036854775808), .i .i64 9223372036854775807]]),
    ([.sl [[.i .i64 (-9223372036854775808), .i .i64 5], [.i .i64 (-9223372036854775808), .i .i64 1], [.i .i64 4, .i .i64 9223372036854775807]]], .sl [[.i .i64 (-9223372036854775808), .i .i64 9223372036854775807]])]),
  (134, [([.sl [[.i .i64 31]], .sl [[.i .i64 47]]], .sl [[.i .i64 31], [.i .i64 47]])]),
  (138, [([.agg [.b false, .sl [[.i .i64 1, .i .i64 5]], .b false, .nilsl], .agg [.i .i64 0, .i .i64 0, .s []]], .b false),
    ([.agg [.b false, .sl [[.i .i64 1, .i .i64 5]], .b false, .nilsl], .agg [.i .i64 1, .i .i64 (-9223372036854775808), .s []]], .b false),
    ([.agg [.b false, .sl [[.i .i64 1, .i .i64 5]], .b false, .nilsl], .agg [.i .i64 1, .i .i64 1, .s []]], .b true),
    ([.agg [.b true, .sl [[.i .i64 (-9223372036854775808), .i .i64 9223372036854775807]], .b true, .nilsl], .agg [.i .i64 0, .i .i64 0, .s []]], .b true),
    ([.agg [.b true, .sl [[.i .i64 (-9223372036854775808), .i .i64 9223372036854775807]], .b true, .nilsl], .agg [.i .i64 1, .i .i64 (-9223372036854775808), .s []]], .b true),
    ([.agg [.b false, .nilsl, .b true, .nilsl], .agg [.i .i64 2, .i .i64 0, .s []]], .b true),
    ([.agg [.b false, .nilsl, .b true, .nilsl], .agg [.i .i64 2, .i .i64 0, .s [126, 48]]], .b true),
    ([.agg [.b true, .sl [[.i .i64 (-9223372036854775808), .i .i64 9223372036854775807]], .b true, .nilsl], .agg [.i .i64 2, .i .i64 0, .s [126, 48]]], .b true),
    ([.agg [.b false, .sl [[.i .i64 1, .i .i64 5]], .b false, .nilsl], .agg [.i .i64 1, .i .i64 2, .s []]], .b true),
    ([.agg [.b false, .sl [[.i .i64 1, .i .i64 5]], .b false, .nilsl], .agg [.i .i64 1, .i .i64 4, .s []]], .b true),
    ([.agg [.b false, .sl [[.i .i64 1, .i .i64 5]], .b false, .nilsl], .agg [.i .i64 1, .i .i64 6, .s []]], .b false),
    ([.agg [.b false, .sl [[.i .i64 1, .i .i64 5]], .b false, .nilsl], .agg [.i .i64 2, .i .i64 0, .s [126, 48]]], .b false),
    ([.agg [.b false, .sl [[.i .i64 2, .i .i64 3]], .b false, .nilsl], .agg [.i .i64 0, .i .i64 0, .s []]], .b false),
    ([.agg [.b false, .sl [[.i .i64 2, .i .i64 3]], .b false, .nilsl], .agg [.i .i64 1, .i .i64 (-9223372036854775808), .s []]], .b false),
    ([.agg [.b false, .sl [[.i .i64 2, .i .i64 3]], .b false, .nilsl], .agg [.i .i64 1, .i .i64 1, .s []]], .b false),
    ([.agg [.b false, .sl [[.i .i64 2, .i .i64 3]], .b false, .nilsl], .agg [.i .i64 1, .i .i64 2, .s []]], .b true),
    ([.agg [.b false, .sl [[.i .i64 2, .i .i64 3]], .b false, .nilsl], .agg [.i .i64 1, .i .i64 4, .s []]], .b false),
    ([.agg [.b false, .sl [[.i .i64 2, .i .i64 3]], .b false, .nilsl], .agg [.i .i64 1, .i .i64 6, .s []]], .b false),
    ([.agg [.b false, .sl [[.i .i64 2, .i .i64 3]], .b false, .nilsl], .agg [.i .i64 2, .i .i64 0, .s [126, 48]]], .b false),
    ([.agg [.b false, .sl [[.i .i64 1, .i .i64 5]], .b false, .nilsl], .agg [.i .i64 1, .i .i64 3, .s []]], .b true)]),
  (226, [([.i .i64 1], .s [2]),
    ([.i .i64 5], .s [10]),
    ([.i .i64 (-9223372036854775808)], .s [129, 255, 255, 255, 255, 255, 255, 255, 255, 127]),
    ([.i .i64 9223372036854775807], .s [129, 255, 255, 255, 255, 255, 255, 255, 255, 126]),
    ([.i .i64 2], .s [4]),
    ([.i .i64 3], .s [6])]),
  (244, [([.agg [.b true, .nilsl, .b false, .nilsl]], .tup [.agg [.i .i64 0, .i .i64 0, .s []], .b true]),
    ([.agg [.b false, .sl [[.i .i64 (-9223372036854775808), .i .i64 0]], .b false, .nilsl]], .tup [.agg [.i .i64 1, .i .i64 (-9223372036854775808), .s []], .b true]),
    ([.agg [.b false, .sl [[.i .i64 1, .i .i64 1]], .b false, .nilsl]], .tup [.agg [.i .i64 1, .i .i64 1, .s []], .b true]),
    ([.agg [.b false, .sl [[.i .i64 (-9223372036854775808), .i .i64 9223372036854775807]], .b false, .nilsl]], .tup [.agg [.i .i64 1, .i .i64 (-9223372036854775808), .s []], .b true]),
    ([.agg [.b false, .sl [[.i .i64 2, .i .i64 3]], .b false, .nilsl]], .tup [.agg [.i .i64 1, .i .i64 2, .s []], .b true]),
    ([.agg [.b false, .sl [[.i .i64 4, .i .i64 5]], .b false, .nilsl]], .tup [.agg [.i .i64 1, .i .i64 4, .s []], .b true]),
    ([.agg [.b false, .sl [[.i .i64 6, .i .i64 9223372036854775807]], .b false, .nilsl]], .tup [.agg [.i .i64 1, .i .i64 6, .s []], .b true])]),
  (249, [([.sl [[.b false, .sl [[.i .i64 1, .i .i64 5]], .b false, .nilsl], [.b false, .sl [[.i .i64 2, .i .i64 3]], .b false, .nilsl]]], .sl [[.b true, .nilsl, .b false, .nilsl], [.b false, .sl [[.i .i64 (-9223372036854775808), .i .i64 0]], .b false, .nilsl], [.b false, .sl [[.i .i64 1, .i .i64 1]], .b false, .nilsl], [.b false, .sl [[.i .i64 2, .i .i64 3]], .b false, .nilsl], [.b false, .sl [[.i .i64 4, .i .i64 5]], .b false, .nilsl], [.b false, .sl [[.i .i64 6, .i .i64 9223372036854775807]], .b false, .nilsl], [.b false, .nilsl, .b true, .nilsl]]),
    ([.sl [[.b true, .sl [[.i .i64 (-9223372036854775808), .i .i64 9223372036854775807]], .b true, .nilsl], [.b true, .sl [[.i .i64 (-9223372036854775808), .i .i64 9223372036854775807]], .b true, .nilsl]]], .sl [[.b true, .nilsl, .b false, .nilsl], [.b false, .sl [[.i .i64 (-9223372036854775808), .i .i64 9223372036854775807]], .b false, .nilsl], [.b false, .nilsl, .b true, .nilsl]])])]
noncomputable def all1 : Tab := tab1 ++ all0
theorem facts1 : factsT Tryz.prog (cfg19.kf (all0)) 1000 tab1 = true := by kernel_rfl
end Go.Arb
end

section
namespace Go.Arb
set_option linter.unusedVariables false
set_option maxRecDepth 100000
open Go Go.Lib Go.Proofs

noncomputable def tab2 : Tab := [(71, [([.sl [[.b false, .sl [[.i .i64 1, .i .i64 5]], .b false, .nilsl, .b true, .sl [[.i .i64 (-9223372036854775808), .i .i64 9223372036854775807]], .b true, .nilsl, .b true, .sl [[.i .i64 (-9223372036854775808), .i .i64 9223372036854775807]], .b true, .nilsl, .b true, .sl [[.i .i64 (-9223372036854775808), .i .i64 9223372036854775807]], .b true, .nilsl]]], .sl [[.b false, .sl [[.i .i64 1, .i .i64 5]], .b false, .nilsl, .b true, .sl [[.i .i64 (-9223372036854775808), .i .i64 9223372036854775807]], .b true, .nilsl, .b true, .sl [[.i .i64 (-9223372036854775808), .i .i64 9223372036854775807]], .b true, .nilsl, .b true, .sl [[.i .i64 (-9223372036854775808), .i .i64 9223372036854775807]], .b true, .nilsl]]),
    ([.sl [[.b false, .sl [[.i .i64 2, .i .i64 3]], .b false, .nilsl, .b true, .sl [[.i .i64 (-9223372036854775808), .i .i64 9223372036854775807]], .b true, .nilsl, .b true, .sl [[.i .i64 (-9223372036854775808), .i .i64 9223372036854775807]], .b true, .nilsl, .b true, .sl [[.i .i64 (-9223372036854775808), .i .i64 9223372036854775807]], .b true, .nilsl]]], .sl [[.b false, .sl [[.i .i64 2, .i .i64 3]], .b false, .nilsl, .b true, .sl [[.i .i64 (-9223372036854775808), .i .i64 9223372036854775807]], .b true, .nilsl, .b true, .sl [[.i .i64 (-9223372036854775808), .i .i64 9223372036854775807]], .b true, .nilsl, .b true, .sl [[.i .i64 (-9223372036854775808), .i .i64 9223372036854775807]], .b true, .nilsl]])]),
  (73, [([.agg [.b true, .nilsl, .b false, .nilsl]], .agg [.b false, .sl [[.i .i64 (-9223372036854775808), .i .i64 9223372036854775807]], .b true, .nilsl]),
    ([.agg [.b false, .sl [[.i .i64 1, .i .i64 5]], .b false, .nilsl]], .agg [.b true, .sl [[.i .i64 (-9223372036854775808), .i .i64 0], [.i .i64 6, .i .i64 9223372036854775807]], .b true, .nilsl]),
    ([.agg [.b true, .sl [[.i .i64 (-9223372036854775808), .i .i64 9223372036854775807]], .b true, .nilsl]], .agg [.b false, .nilsl, .b false, .nilsl]),
    ([.agg [.b false, .sl [[.i .i64 (-9223372036854775808), .i .i64 0]], .b false, .nilsl]], .agg [.b true, .sl [[.i .i64 1, .i .i64 9223372036854775807]], .b true, .nilsl]),
    ([.agg [.b false, .sl [[.i .i64 1, .i .i64 1]], .b false, .nilsl]], .agg [.b true, .sl [[.i .i64 (-9223372036854775808), .i .i64 0], [.i .i64 2, .i .i64 9223372036854775807]], .b true, .nilsl]),
    ([.agg [.b true, .sl [[.i .i64 (-9223372036854775808), .i .i64 0], [.i .i64 2, .i .i64 9223372036854775807]], .b true, .nilsl]], .agg [.b false, .sl [[.i .i64 1, .i .i64 1]], .b false, .nilsl]),
    ([.agg [.b false, .sl [[.i .i64 2, .i .i64 3]], .b false, .nilsl]], .agg [.b true, .sl [[.i .i64 (-9223372036854775808), .i .i64 1], [.i .i64 4, .i .i64 9223372036854775807]], .b true, .nilsl]),
    ([.agg [.b true, .sl [[.i .i64 (-9223372036854775808), .i .i64 1], [.i .i64 4, .i .i64 9223372036854775807]], .b true, .nilsl]], .agg [.b false, .sl [[.i .i64 2, .i .i64 3]], .b false, .nilsl]),
    ([.agg [.b false, .sl [[.i .i64 4, .i .i64 5]], .b false, .nilsl]], .agg [.b true, .sl [[.i .i64 (-9223372036854775808), .i .i64 3], [.i .i64 6, .i .i64 9223372036854775807]], .b true, .nilsl]),
    ([.agg [.b true, .sl [[.i .i64 (-9223372036854775808), .i .i64 3], [.i .i64 6, .i .i64 9223372036854775807]], .b true, .nilsl]], .agg [.b false, .sl [[.i .i64 4, .i .i64 5]], .b false, .nilsl]),
    ([.agg [.b false, .sl [[.i .i64 6, .i .i64 9223372036854775807]], .b false, .nilsl]], .agg [.b true, .sl [[.i .i64 (-9223372036854775808), .i .i64 5]], .b true, .nilsl]),
    ([.agg [.b false, .nilsl, .b true, .nilsl]], .agg [.b true, .sl [[.i .i64 (-9223372036854775808), .i .i64 9223372036854775807]], .b false, .nilsl]),
    ([.agg [.b false, .sl [[.i .i64 (-9223372036854775808), .i .i64 9223372036854775807]], .b true, .nilsl]], .agg [.b true, .nilsl, .b false, .nilsl]),
    ([.agg [.b false, .sl [[.i .i64 (-9223372036854775808), .i .i64 9223372036854775807]], .b false, .nilsl]], .agg [.b true, .nilsl, .b true, .nilsl]),
    ([.agg [.b true, .nilsl, .b true, .nilsl]], .agg [.b false, .sl [[.i .i64 (-9223372036854775808), .i .i64 9223372036854775807]], .b false, .nilsl]),
    ([.agg [.b true, .sl [[.i .i64 (-9223372036854775808), .i .i64 9223372036854775807]], .b false, .nilsl]], .agg [.b false, .nilsl, .b true, .nilsl])]),
  (116, [([.agg [.b false, .sl [[.i .i64 1, .i .i64 5]], .b false, .nilsl, .b true, .sl [[.i .i64 (-9223372036854775808), .i .i64 9223372036854775807]], .b true, .nilsl, .b true, .sl [[.i .i64 (-9223372036854775808), .i .i64 9223372036854775807]], .b true, .nilsl, .b true, .sl [[.i .i64 (-9223372036854775808), .i .i64 9223372036854775807]], .b true, .nilsl], .agg [.i .i64 1, .i .i64 3, .s [], .i .i64 0, .i .i64 0, .s [], .i .i64 0, .i .i64 0, .s [], .i .i64 0, .i .i64 0, .s []]], .b true)]),
  (144, [([.agg [.b false, .sl [[.i .i64 (-9223372036854775808), .i .i64 9223372036854775807]], .b true, .nilsl], .agg [.b true, .sl [[.i .i64 (-9223372036854775808), .i .i64 0], [.i .i64 6, .i .i64 9223372036854775807]], .b true, .nilsl]], .agg [.b true, .sl [[.i .i64 (-9223372036854775808), .i .i64 9223372036854775807]], .b true, .nilsl]),
    ([.agg [.b true, .sl [[.i .i64 1, .i .i64 9223372036854775807]], .b true, .nilsl], .agg [.b true, .sl [[.i .i64 (-9223372036854775808), .i .i64 0], [.i .i64 6, .i .i64 9223372036854775807]], .b true, .nilsl]], .agg [.b true, .sl [[.i .i64 (-9223372036854775808), .i .i64 9223372036854775807]], .b true, .nilsl]),
    ([.agg [.b true, .sl [[.i .i64 (-9223372036854775808), .i .i64 0], [.i .i64 2, .i .i64 9223372036854775807]], .b true, .nilsl], .agg [.b true, .sl [[.i .i64 (-9223372036854775808), .i .i64 0], [.i .i64 6, .i .i64 9223372036854775807]], .b true, .nilsl]], .agg [.b true, .sl [[.i .i64 (-9223372036854775808), .i .i64 0], [.i .i64 2, .i .i64 9223372036854775807]], .b true, .nilsl]),
    ([.agg [.b true, .sl [[.i .i64 (-9223372036854775808), .i .i64 1], [.i .i64 4, .i .i64 9223372036854775807]], .b true, .nilsl], .agg [.b true, .sl [[.i .i64 (-9223372036854775808), .i .i64 0], [.i .i64 6, .i .i64 9223372036854775807]], .b true, .nilsl]], .agg [.b true, .sl [[.i .i64 (-9223372036854775808), .i .i64 1], [.i .i64 4, .i .i64 9223372036854775807]], .b true, .nilsl]),
    ([.agg [.b true, .sl [[.i .i64 (-9223372036854775808), .i .i64 3], [.i .i64 6, .i .i64 9223372036854775807]], .b true, .nilsl], .agg [.b true, .sl [[.i .i64 (-9223372036854775808), .i .i64 0], [.i .i64 6, .i .i64 9223372036854775807]], .b true, .nilsl]], .agg [.b true, .sl [[.i .i64 (-9223372036854775808), .i .i64 3], [.i .i64 6, .i .i64 9223372036854775807]], .b true, .nilsl]),
    ([.agg [.b true, .sl [[.i .i64 (-9223372036854775808), .i .i64 5]], .b true, .nilsl], .agg [.b true, .sl [[.i .i64 (-9223372036854775808), .i .i64 0], [.i .i64 6, .i .i64 9223372036854775807]], .b true, .nilsl]], .agg [.b true, .sl [[.i .i64 (-9223372036854775808), .i .i64 9223372036854775807]], .b true, .nilsl]),
    ([.agg [.b true, .sl [[.i .i64 (-9223372036854775808), .i .i64 9223372036854775807]], .b false, .nilsl], .agg [.b true, .sl [[.i .i64 (-9223372036854775808), .i .i64 0], [.i .i64 6, .i .i64 9223372036854775807]], .b true, .nilsl]], .agg [.b true, .sl [[.i .i64 (-9223372036854775808), .i .i64 9223372036854775807]], .b true, .nilsl]),
    ([.agg [.b false, .sl [[.i .i64 (-9223372036854775808), .i .i64 9223372036854775807]], .b true, .nilsl], .agg [.b false, .nilsl, .b false, .nilsl]], .agg [.b false, .sl [[.i .i64 (-9223372036854775808), .i .i64 9223372036854775807]], .b true, .nilsl]),
    ([.agg [.b true, .nilsl, .b true, .nilsl], .agg [.b false, .nilsl, .b false, .nilsl]], .agg [.b true, .nilsl, .b true, .nilsl]),
    ([.agg [.b true, .sl [[.i .i64 (-9223372036854775808), .i .i64 9223372036854775807]], .b false, .nilsl], .agg [.b false, .nilsl, .b false, .nilsl]], .agg [.b true, .sl [[.i .i64 (-9223372036854775808), .i .i64 9223372036854775807]], .b false, .nilsl]),
    ([.agg [.b false, .sl [[.i .i64 (-9223372036854775808), .i .i64 9223372036854775807]], .b true, .nilsl], .agg [.b true, .sl [[.i .i64 (-9223372036854775808), .i .i64 1], [.i .i64 4, .i .i64 9223372036854775807]], .b true, .nilsl]], .agg [.b true, .sl [[.i .i64 (-9223372036854775808), .i .i64 9223372036854775807]], .b true, .nilsl]),
    ([.agg [.b true, .sl [[.i .i64 1, .i .i64 9223372036854775807]], .b true, .nilsl], .agg [.b true, .sl [[.i .i64 (-9223372036854775808), .i .i64 1], [.i .i64 4, .i .i64 9223372036854775807]], .b true, .nilsl]], .agg [.b true, .sl [[.i .i64 (-9223372036854775808), .i .i64 9223372036854775807]], .b true, .nilsl]),
    ([.agg [.b true, .sl [[.i .i64 (-9223372036854775808), .i .i64 0], [.i .i64 2, .i .i64 9223372036854775807]], .b true, .nilsl], .agg [.b true, .sl [[.i .i64 (-9223372036854775808), .i .i64 1], [.i .i64 4, .i .i64 9223372036854775807]], .b true, .nilsl]], .agg [.b true, .sl [[.i .i64 (-9223372036854775808), .i .i64 9223372036854775807]], .b true, .nilsl]),
    ([.agg [.b true, .sl [[.i .i64 (-9223372036854775808), .i .i64 1], [.i .i64 4, .i .i64 9223372036854775807]], .b true, .nilsl], .agg [.b true, .sl [[.i .i64 (-9223372036854775808), .i .i64 1], [.i .i64 4, .i .i64 9223372036854775807]], .b true, .nilsl]], .agg [.b true, .sl [[.i .i64 (-9223372036854775808), .i .i64 1], [.i .i64 4, .i .i64 9223372036854775807]], .b true, .nilsl]),
    ([.agg [.b true, .sl [[.i .i64 (-9223372036854775808), .i .i64 3], [.i .i64 6, .i .i64 9223372036854775807]], .b true, .nilsl], .agg [.b true, .sl [[.i .i64 (-9223372036854775808), .i .i64 1], [.i .i64 4, .i .i64 9223372036854775807]], .b true, .nilsl]], .agg [.b true, .sl [[.i .i64 (-9223372036854775808), .i .i64 9223372036854775807]], .b true, .nilsl]),
    ([.agg [.b true, .sl [[.i .i64 (-9223372036854775808), .i .i64 5]], .b true, .nilsl], .agg [.b true, .sl [[.i .i64 (-9223372036854775808), .i .i64 1], [.i .i64 4, .i .i64 9223372036854775807]], .b true, .nilsl]], .agg [.b true, .sl [[.i .i64 (-9223372036854775808), .i .i64 9223372036854775807]], .b true, .nilsl]),
    ([.agg [.b true, .sl [[.i .i64 (-9223372036854775808), .i .i64 9223372036854775807]], .b false, .nilsl], .agg [.b true, .sl [[.i .i64 (-9223372036854775808), .i .i64 1], [.i .i64 4, .i .i64 9223372036854775807]], .b true, .nilsl]], .agg [.b true, .sl [[.i .i64 (-9223372036854775808), .i .i64 9223372036854775807]], .b true, .nilsl])]),
  (195, [([.sl [[.b false, .sl [[.i .i64 1, .i .i64 5]], .b false, .nilsl, .b true, .sl [[.i .i64 (-9223372036854775808), .i .i64 9223372036854775807]], .b true, .nilsl, .b true, .sl [[.i .i64 (-9223372036854775808), .i .i64 9223372036854775807]], .b true, .nilsl, .b true, .sl [[.i .i64 (-9223372036854775808), .i .i64 9223372036854775807]], .b true, .nilsl]]], .s [1, 0, 1, 2, 10, 0, 3, 1, 129, 255, 255, 255, 255, 255, 255, 255, 255, 127, 129, 255, 255, 255, 255, 255, 255, 255, 255, 126, 0, 3, 1, 129, 255, 255, 255, 255, 255, 255, 255, 255, 127, 129, 255, 255, 255, 255, 255, 255, 255, 255, 126, 0, 3, 1, 129, 255, 255, 255, 255, 255, 255, 255, 255, 127, 129, 255, 255, 255, 255, 255, 255, 255, 255, 126, 0]),
    ([.sl [[.b false, .sl [[.i .i64 2, .i .i64 3]], .b false, .nilsl, .b true, .sl [[.i .i64 (-9223372036854775808), .i .i64 9223372036854775807]], .b true, .nilsl, .b true, .sl [[.i .i64 (-9223372036854775808), .i .i64 9223372036854775807]], .b true, .nilsl, .b true, .sl [[.i .i64 (-9223372036854775808), .i .i64 9223372036854775807]], .b true, .nilsl]]], .s [1, 0, 1, 4, 6, 0, 3, 1, 129, 255, 255, 255, 255, 255, 255, 255, 255, 127, 129, 255, 255, 255, 255, 255, 255, 255, 255, 126, 0, 3, 1, 129, 255, 255, 255, 255, 255, 255, 255, 255, 127, 129, 255, 255, 255, 255, 255, 255, 255, 255, 126, 0, 3, 1, 129, 255, 255, 255, 255, 255, 255, 255, 255, 127, 129, 255, 255, 255, 255, 255, 255, 255, 255, 126, 0])]),
  (232, [([.agg [.b true, .nilsl, .b false, .nilsl], .agg [.b false, .sl [[.i .i64 1, .i .i64 5]], .b false, .nilsl]], .b false),
    ([.agg [.b false, .sl [[.i .i64 (-9223372036854775808), .i .i64 0]], .b false, .nilsl], .agg [.b false, .sl [[.i .i64 1, .i .i64 5]], .b false, .nilsl]], .b false),
    ([.agg [.b false, .sl [[.i .i64 1, .i .i64 1]], .b false, .nilsl], .agg [.b false, .sl [[.i .i64 1, .i .i64 5]], .b false, .nilsl]], .b true),
    ([.agg [.b true, .nilsl, .b false, .nilsl], .agg [.b true, .sl [[.i .i64 (-9223372036854775808), .i .i64 9223372036854775807]], .b true, .nilsl]], .b true),
    ([.agg [.b false, .sl [[.i .i64 (-9223372036854775808), .i .i64 9223372036854775807]], .b false, .nilsl], .agg [.b true, .sl [[.i .i64 (-9223372036854775808), .i .i64 9223372036854775807]], .b true, .nilsl]], .b true),
    ([.agg [.b false, .sl [[.i .i64 2, .i .i64 3]], .b false, .nilsl], .agg [.b false, .sl [[.i .i64 1, .i .i64 5]], .b false, .nilsl]], .b true),
    ([.agg [.b false, .sl [[.i .i64 4, .i .i64 5]], .b false, .nilsl], .agg [.b false, .sl [[.i .i64 1, .i .i64 5]], .b false, .nilsl]], .b true),
    ([.agg [.b false, .sl [[.i .i64 6, .i .i64 9223372036854775807]], .b false, .nilsl], .agg [.b false, .sl [[.i .i64 1, .i .i64 5]], .b false, .nilsl]], .b false),
    ([.agg [.b true, .nilsl, .b false, .nilsl], .agg [.b false, .sl [[.i .i64 2, .i .i64 3]], .b false, .nilsl]], .b false),
    ([.agg [.b false, .sl [[.i .i64 (-9223372036854775808), .i .i64 0]], .b false, .nilsl], .agg [.b false, .sl [[.i .i64 2, .i .i64 3]], .b false, .nilsl]], .b false),
    ([.agg [.b false, .sl [[.i .i64 1, .i .i64 1]], .b false, .nilsl], .agg [.b false, .sl [[.i .i64 2, .i .i64 3]], .b false, .nilsl]], .b false),
    ([.agg [.b false, .sl [[.i .i64 2, .i .i64 3]], .b false, .nilsl], .agg [.b false, .sl [[.i .i64 2, .i .i64 3]], .b false, .nilsl]], .b true),
    ([.agg [.b false, .sl [[.i .i64 4, .i .i64 5]], .b false, .nilsl], .agg [.b false, .sl [[.i .i64 2, .i .i64 3]], .b false, .nilsl]], .b false),
    ([.agg [.b false, .sl [[.i .i64 6, .i .i64 9223372036854775807]], .b false, .nilsl], .agg [.b false, .sl [[.i .i64 2, .i .i64 3]], .b false, .nilsl]], .b false)]),
  (244, [([.agg [.b false, .nilsl, .b true, .nilsl]], .tup [.agg [.i .i64 2, .i .i64 0, .s [126, 48]], .b true])])]
noncomputable def all2 : Tab := tab2 ++ all1
theorem facts2 : factsT Tryz.prog (cfg19.kf (all1)) 1000 tab2 = true := by kernel_rfl
end Go.Arb
end

section
namespace Go.Arb
set_option linter.unusedVariables false
set_option maxRecDepth 100000
open Go Go.Lib Go.Proofs

noncomputable def tab3 : Tab := [(53, [([.sl [[.b false, .sl [[.i .i64 1, .i .i64 5]], .b false, .nilsl, .b true, .sl [[.i .i64 (-9223372036854775808), .i .i64 9223372036854775807]], .b true, .nilsl, .b true, .sl [[.i .i64 (-9223372036854775808), .i .i64 9223372036854775807]], .b true, .nilsl, .b true, .sl [[.i .i64 (-9223372036854775808), .i .i64 9223372036854775807]], .b true, .nilsl]]], .b true),
    ([.sl [[.b false, .sl [[.i .i64 2, .i .i64 3]], .b false, .nilsl, .b true, .sl [[.i .i64 (-9223372036854775808), .i .i64 9223372036854775807]], .b true, .nilsl, .b true, .sl [[.i .i64 (-9223372036854775808), .i .i64 9223372036854775807]], .b true, .nilsl, .b true, .sl [[.i .i64 (-9223372036854775808), .i .i64 9223372036854775807]], .b true, .nilsl]]], .b true)]),
  (86, [([.sl [[.b false, .sl [[.i .i64 1, .i .i64 5]], .b false, .nilsl, .b true, .sl [[.i .i64 (-9223372036854775808), .i .i64 9223372036854775807]], .b true, .nilsl, .b true, .sl [[.i .i64 (-9223372036854775808), .i .i64 9223372036854775807]], .b true, .nilsl, .b true, .sl [[.i .i64 (-9223372036854775808), .i .i64 9223372036854775807]], .b true, .nilsl]], .agg [.i .i64 1, .i .i64 3, .s [], .i .i64 0, .i .i64 0, .s [], .i .i64 0, .i .i64 0, .s [], .i .i64 0, .i .i64 0, .s []]], .b true)]),
  (124, [([.agg [.b true, .nilsl, .b false, .nilsl], .agg [.b false, .sl [[.i .i64 1, .i .i64 5]], .b false, .nilsl]], .agg [.b false, .nilsl, .b false, .nilsl]),
    ([.agg [.b false, .sl [[.i .i64 (-9223372036854775808), .i .i64 0]], .b false, .nilsl], .agg [.b false, .sl [[.i .i64 1, .i .i64 5]], .b false, .nilsl]], .agg [.b false, .nilsl, .b false, .nilsl]),
    ([.agg [.b false, .sl [[.i .i64 1, .i .i64 1]], .b false, .nilsl], .agg [.b false, .sl [[.i .i64 1, .i .i64 5]], .b false, .nilsl]], .agg [.b false, .sl [[.i .i64 1, .i .i64 1]], .b false, .nilsl]),
    ([.agg [.b false, .sl [[.i .i64 2, .i .i64 3]], .b false, .nilsl], .agg [.b false, .sl [[.i .i64 1, .i .i64 5]], .b false, .nilsl]], .agg [.b false, .sl [[.i .i64 2, .i .i64 3]], .b false, .nilsl]),
    ([.agg [.b false, .sl [[.i .i64 4, .i .i64 5]], .b false, .nilsl], .agg [.b false, .sl [[.i .i64 1, .i .i64 5]], .b false, .nilsl]], .agg [.b false, .sl [[.i .i64 4, .i .i64 5]], .b false, .nilsl]),
    ([.agg [.b false, .sl [[.i .i64 6, .i .i64 9223372036854775807]], .b false, .nilsl], .agg [.b false, .sl [[.i .i64 1, .i .i64 5]], .b false, .nilsl]], .agg [.b false, .nilsl, .b false, .nilsl]),
    ([.agg [.b false, .nilsl, .b true, .nilsl], .agg [.b false, .sl [[.i .i64 1, .i .i64 5]], .b false, .nilsl]], .agg [.b false, .nilsl, .b false, .nilsl]),
    ([.agg [.b true, .nilsl, .b false, .nilsl], .agg [.b true, .sl [[.i .i64 (-9223372036854775808), .i .i64 9223372036854775807]], .b true, .nilsl]], .agg [.b true, .nilsl, .b false, .nilsl]),
    ([.agg [.b false, .sl [[.i .i64 (-9223372036854775808), .i .i64 9223372036854775807]], .b false, .nilsl], .agg [.b true, .sl [[.i .i64 (-9223372036854775808), .i .i64 9223372036854775807]], .b true, .nilsl]], .agg [.b false, .sl [[.i .i64 (-9223372036854775808), .i .i64 9223372036854775807]], .b false, .nilsl]),
    ([.agg [.b false, .nilsl, .b true, .nilsl], .agg [.b true, .sl [[.i .i64 (-9223372036854775808), .i .i64 9223372036854775807]], .b true, .nilsl]], .agg [.b false, .nilsl, .b true, .nilsl]),
    ([.agg [.b true, .nilsl, .b false, .nilsl], .agg [.b false, .sl [[.i .i64 2, .i .i64 3]], .b false, .nilsl]], .agg [.b false, .nilsl, .b false, .nilsl]),
    ([.agg [.b false, .sl [[.i .i64 (-9223372036854775808), .i .i64 0]], .b false, .nilsl], .agg [.b false, .sl [[.i .i64 2, .i .i64 3]], .b false, .nilsl]], .agg [.b false, .nilsl, .b false, .nilsl]),
    ([.agg [.b false, .sl [[.i .i64 1, .i .i64 1]], .b false, .nilsl], .agg [.b false, .sl [[.i .i64 2, .i .i64 3]], .b false, .nilsl]], .agg [.b false, .nilsl, .b false, .nilsl]),
    ([.agg [.b false, .sl [[.i .i64 2, .i .i64 3]], .b false, .nilsl], .agg [.b false, .sl [[.i .i64 2, .i .i64 3]], .b false, .nilsl]], .agg [.b false, .sl [[.i .i64 2, .i .i64 3]], .b false, .nilsl]),
    ([.agg [.b false, .sl [[.i .i64 4, .i .i64 5]], .b false, .nilsl], .agg [.b false, .sl [[.i .i64 2, .i .i64 3]], .b false, .nilsl]], .agg [.b false, .nilsl, .b false, .nilsl]),
    ([.agg [.b false, .sl [[.i .i64 6, .i .i64 9223372036854775807]], .b false, .nilsl], .agg [.b false, .sl [[.i .i64 2, .i .i64 3]], .b false, .nilsl]], .agg [.b false, .nilsl, .b false, .nilsl]),
    ([.agg [.b false, .nilsl, .b true, .nilsl], .agg [.b false, .sl [[.i .i64 2, .i .i64 3]], .b false, .nilsl]], .agg [.b false, .nilsl, .b false, .nilsl])]),
  (232, [([.agg [.b false, .nilsl, .b true, .nilsl], .agg [.b true, .sl [[.i .i64 (-9223372036854775808), .i .i64 9223372036854775807]], .b true, .nilsl]], .b true),
    ([.agg [.b false, .nilsl, .b true, .nilsl], .agg [.b false, .sl [[.i .i64 1, .i .i64 5]], .b false, .nilsl]], .b false),
    ([.agg [.b false, .nilsl, .b true, .nilsl], .agg [.b false, .sl [[.i .i64 2, .i .i64 3]], .b false, .nilsl]], .b false)])]
noncomputable def all3 : Tab := tab3 ++ all2
theorem facts3 : factsT Tryz.prog (cfg19.kf (all2)) 1000 tab3 = true := by kernel_rfl
end Go.Arb
end

section
namespace Go.Arb
set_option linter.unusedVariables false
set_option maxRecDepth 100000
open Go Go.Lib Go.Proofs

noncomputable def tab4 : Tab := [(30, [([.agg [.i .i64 1, .i .i64 0, .b false, .sl [[.i .i64 1, .i .i64 5]], .b false, .nilsl, .nilsl]], .tup [.sl [[.b false, .sl [[.i .i64 1, .i .i64 5]], .b false, .nilsl, .b true, .sl [[.i .i64 (-9223372036854775808), .i .i64 9223372036854775807]], .b true, .nilsl, .b true, .sl [[.i .i64 (-9223372036854775808), .i .i64 9223372036854775807]], .b true, .nilsl, .b true, .sl [[.i .i64 (-9223372036854775808), .i .i64 9223372036854775807]], .b true, .nilsl]], .i .i64 0]),
    ([.agg [.i .i64 1, .i .i64 0, .b false, .sl [[.i .i64 2, .i .i64 3]], .b false, .nilsl, .nilsl]], .tup [.sl [[.b false, .sl [[.i .i64 2, .i .i64 3]], .b false, .nilsl, .b true, .sl [[.i .i64 (-9223372036854775808), .i .i64 9223372036854775807]], .b true, .nilsl, .b true, .sl [[.i .i64 (-9223372036854775808), .i .i64 9223372036854775807]], .b true, .nilsl, .b true, .sl [[.i .i64 (-9223372036854775808), .i .i64 9223372036854775807]], .b true, .nilsl]], .i .i64 0])])]
noncomputable def all4 : Tab := tab4 ++ all3
theorem facts4 : factsT Tryz.prog (cfg19.kf (all3)) 1000 tab4 = true := by kernel_rfl
end Go.Arb
end
