/-
  The draws and the plain laws of slices together.
-/
import Derived.Test.YtpkbfkolllcjgaaDraw3
import Derived.Test.YtpkbfkolllcjgaaPlainB
